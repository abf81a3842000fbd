/- What the proof of the law FnGaps uses: lemmas, the Lean functions of the Go functions that it reaches, their contracts, and the pure statement's proof. -/
import Derived.Test.YtghfeapncmlihaaZFnGapsx16
import Derived.Test.YtghfeapncmlihaaZFnGapsx17
import Derived.Test.YtghfeapncmlihaaZFnGapsx18
import Derived.Test.YtghfeapncmlihaaZFnGapsx19
import Derived.Test.YtghfeapncmlihaaZFnGapsx20
import Derived.Test.YtghfeapncmlihaaZFnGapsx22
import Derived.Test.YtghfeapncmlihaaZFnGapsx23
import Derived.Test.YtghfeapncmlihaaZFnGapsx26
import Derived.ProofKit
import Derived.OpenShut
import Derived.ShutString
import Derived.ChangeOld
import Derived.SizedLaws
import Derived.ChangeArms
import Derived.Test.YtghfeapncmlihaaZFnGapsh
namespace Go.Proofs.Ytghfeapncmlihaa.A
open Go.RowKit Go.Proofs.YtghfeapncmlihaaW.PrintWords Go.Proofs.YtghfeapncmlihaaW.PrintLast Go.Proofs.YtghfeapncmlihaaW.PrintMore
attribute [local go_sem] max2_int min2_int max_two min_two max_three min_three max_four min_four   
set_option linter.unusedVariables false
set_option linter.unusedSimpArgs false
mutual
def laws_FnGaps.j0 : Nat → List (S54) → Bool → Int → List Int → List (S71) → Int → List Int → List (S71) → Option (Bool)
 | 0, _, _, _, _, _, _, _, _ => none
 | k + 1, x4, x27, x1210000, x1210001, x1210002, x1221000, x1221001, x1221002 => if x27 = true then (some false) else ((impl_ColumnOk.f x1210000 x1210001 x1210002).bind fun t1233 => (if t1233 = true then (laws_FnGaps.l0 k x4 0 0 x1210000 x1210001 x1210002 x1221000 x1221001 x1221002) else (if (x4.length : Int) = 0 then ((laws_sameColumn.f k x1221000 x1221001 x1221002 x1210000 x1210001 x1210002).bind fun t1234 => (if t1234 = true then ((spec_ColumnOk.f k x1210000 x1210001 x1210002).bind fun t1235 => (some (!t1235))) else (some false))) else (some false))))
def laws_FnGaps.l0 : Nat → List (S54) → Int → Int → Int → List Int → List (S71) → Int → List Int → List (S71) → Option (Bool)
 | 0, _, _, _, _, _, _, _, _, _ => none
 | k + 1, x4, x6, x7, x1210000, x1210001, x1210002, x1221000, x1221001, x1221002 => if x7 < (x1210002.length : Int) then (if 0 ≤ x7 then (if ((rd_T71 x1210002 x7).f2) > 0 then (laws_FnGaps.l0 k x4 (wrap64 (x6 + ((rd_T71 x1210002 x7).f1))) (wrap64 (x7 + 1)) x1210000 x1210001 x1210002 x1221000 x1221001 x1221002) else (if (rd_T71 x1210002 x7).f3 = true then (laws_FnGaps.l0 k x4 (wrap64 (x6 + ((rd_T71 x1210002 x7).f1))) (wrap64 (x7 + 1)) x1210000 x1210001 x1210002 x1221000 x1221001 x1221002) else (laws_FnGaps.l0 k x4 x6 (wrap64 (x7 + 1)) x1210000 x1210001 x1210002 x1221000 x1221001 x1221002))) else (none)) else ((impl_ColumnOk.f x1221000 x1221001 x1221002).bind fun t1240 => (if t1240 = true then ((impl_GapsOf.f k x1221000 x1221001 x1221002).bind fun t1241 => ((laws_sameGaps.f k t1241 x4).bind fun t1244 => (if t1244 = true then ((laws_room.f k x4).bind fun t1245 => (some ((wrap64 (t1245 + x6)) == x1210000))) else (some false)))) else (some false)))
end
def laws_FnGaps.f (k : Nat) (l0 : List Int) : Option (Bool) := (laws_big.f l0).bind fun t1201 => (if t1201 = true then (some true) else ((spec_DrawGapsOf.f k l0).bind fun bt1202 => ((impl_GapsOf.f k bt1202.1 bt1202.2.1 bt1202.2.2).bind fun t1210 => ((impl_Cleared.f k bt1202.1 bt1202.2.1 bt1202.2.2).bind fun bt1213 => ((spec_GapsOf.f k bt1202.1 bt1202.2.1 bt1202.2.2).bind fun t1221 => ((laws_sameGaps.f k t1210 t1221).bind fun t1224 => (if t1224 = true then ((spec_Cleared.f k bt1202.1 bt1202.2.1 bt1202.2.2).bind fun bt1225 => ((laws_sameColumn.f k bt1213.1 bt1213.2.1 bt1213.2.2 bt1225.1 bt1225.2.1 bt1225.2.2).bind fun t1232 => (laws_FnGaps.j0 k t1210 (!t1232) bt1202.1 bt1202.2.1 bt1202.2.2 bt1213.1 bt1213.2.1 bt1213.2.2))) else (laws_FnGaps.j0 k t1210 true bt1202.1 bt1202.2.1 bt1202.2.2 bt1213.1 bt1213.2.1 bt1213.2.2))))))))
def laws_FnGaps.T6 : Bool × List (List Nat × List Nat) := (true, [([], []), ([], []), ([1], [1]), ([0, 2, 2], [0, 2]), ([3], [3]), ([4, 3], [4]), ([5], [5]), ([5], [5]), ([7, 5, 5], [5, 7]), ([6, 8, 8, 5], [5, 6, 8]), ([9, 5], [5, 9]), ([5, 10], [5, 10])])
def laws_FnGaps.B6 : List Nat := [0, 0, 2, 7, 15, 31, 63, 63, 191, 511, 1023, 2047]
theorem laws_FnGaps.tab6 : rtab .any (opsOf Try.f14 6) = laws_FnGaps.T6 := by kernel_rfl
theorem laws_FnGaps.bits6 : waitsOk laws_FnGaps.T6.2 laws_FnGaps.B6 = true := by kernel_rfl
def laws_FnGaps.T16 : Bool × List (List Nat × List Nat) := (true, [([], []), ([0], [0]), ([1, 1], [1]), ([2], [2]), ([3, 2, 2], [2, 3]), ([2], [2]), ([4, 5, 4, 2], [2, 4, 5]), ([2, 6], [2, 6]), ([7, 6], [7]), ([8], [8]), ([9, 8, 8], [8, 9]), ([8], [8]), ([10, 11, 8], [8, 10, 11]), ([8], [8]), ([13, 8], [8, 13]), ([12, 14, 8], [8, 12, 14]), ([8, 15], [8, 15]), ([16, 10, 0, 1, 2, 3, 4, 5, 6, 7, 8, 9, 10, 11, 12, 13, 14, 15, 16], [16])])
def laws_FnGaps.B16 : List Nat := [0, 1, 3, 7, 15, 7, 63, 127, 255, 511, 1023, 511, 4095, 511, 8703, 32767, 65535, 131071]
theorem laws_FnGaps.tab16 : rtab .any (opsOf Try.f14 16) = laws_FnGaps.T16 := by kernel_rfl
theorem laws_FnGaps.bits16 : waitsOk laws_FnGaps.T16.2 laws_FnGaps.B16 = true := by kernel_rfl
set_option maxHeartbeats 8000000 in
set_option maxRecDepth 100000 in
theorem laws_FnGaps.calls (k : Nat) (A0 : Option Addr) (c0 : Nat) (l0 : List Int) (r : Bool) (w : World) (hr0 : Kd.C (Kd.int .u8) w A0 l0.length l0) (hc0 : l0.length ≤ c0) (hr_ : Aside0 (r = true)) (h : laws_FnGaps.f k l0 = some r) :
  Calls Try.prog 14 #[.slice A0 l0.length c0] w fun e w' => e = .returned (.bool r) ∧ Below w.heap.size w w' := by
 have hu30 := Try.underlying30
 have HR0 := Aside0.mk hr0
 have HC0 := Aside0.mk hc0
 clear hr0 hc0
 have HB := Aside0.mk (Below.refl w.heap.size w)
 have H : ((laws_big.f l0).bind fun t1201 => (if t1201 = true then (some true) else ((spec_DrawGapsOf.f k l0).bind fun bt1202 => ((impl_GapsOf.f k bt1202.1 bt1202.2.1 bt1202.2.2).bind fun t1210 => ((impl_Cleared.f k bt1202.1 bt1202.2.1 bt1202.2.2).bind fun bt1213 => ((spec_GapsOf.f k bt1202.1 bt1202.2.1 bt1202.2.2).bind fun t1221 => ((laws_sameGaps.f k t1210 t1221).bind fun t1224 => (if t1224 = true then ((spec_Cleared.f k bt1202.1 bt1202.2.1 bt1202.2.2).bind fun bt1225 => ((laws_sameColumn.f k bt1213.1 bt1213.2.1 bt1213.2.2 bt1225.1 bt1225.2.1 bt1225.2.2).bind fun t1232 => (laws_FnGaps.j0 k t1210 (!t1232) bt1202.1 bt1202.2.1 bt1202.2.2 bt1213.1 bt1213.2.1 bt1213.2.2))) else (laws_FnGaps.j0 k t1210 true bt1202.1 bt1202.2.1 bt1202.2.2 bt1213.1 bt1213.2.1 bt1213.2.2))))))))) = some r := h
 clear h
 replace H := Option.bind_eq_some_iff.mp H
 obtain ⟨t1201, A20, H⟩ := H
 try dsimp only at H
 have A2 := Aside0.mk A20
 clear A20
 by_cases c3 : t1201 = true
 ·subst c3
  rw [if_pos rfl] at H
  obtain rfl := Option.some.inj H
  go_enter Try.func14, Try.ntmps14
  go_wp2_with (first | ((with_reducible refine gate_callee (f := 52) rfl ?_); refine goesL_ (some 9) rfl rfl Try.func52 (by kernel_rfl) rfl #[.slice A0 l0.length c0] rfl mapd ?_; (with_reducible refine (laws_big.calls _ _ l0 true _ ?side1 ?side2 A2.out).mono ?_); (case side1 => repeat (first | exact HR0.out | (with_reducible refine Kd.C_alloc ?_ _) | (with_reducible refine Kd.C_drewN ?_ _) | (with_reducible refine Kd.C_drew ?_))); (case side2 => exact HC0.out); rintro e w' ⟨rfl, ⟨nd, rfl⟩⟩; refine ⟨_, rfl, ?_⟩))
  go_ret
  exact ⟨by first | rfl | (simp [errW_none, errW_some] <;> rfl) | (simp [*, errW_none, errW_some] <;> rfl), bl HB.out⟩
 ·replace c3 := Bool.eq_false_iff.mpr c3
  subst c3
  rw [if_neg (show ¬ (false = true) by decide)] at H
  replace H := Option.bind_eq_some_iff.mp H
  obtain ⟨⟨t1202, t1203, t1206⟩, A40, H⟩ := H
  try dsimp only at H
  have A4 := Aside0.mk A40
  clear A40
  replace H := Option.bind_eq_some_iff.mp H
  obtain ⟨t1210, A50, H⟩ := H
  try dsimp only at H
  have A5 := Aside0.mk A50
  clear A50
  replace H := Option.bind_eq_some_iff.mp H
  obtain ⟨⟨t1213, t1214, t1217⟩, A60, H⟩ := H
  try dsimp only at H
  have A6 := Aside0.mk A60
  clear A60
  have HC7 := Aside0.mk H
  clear H
  go_enter Try.func14, Try.ntmps14
  go_upto_region 6 with (first | ((with_reducible refine gate_callee (f := 52) rfl ?_); refine goesL_ (some 9) rfl rfl Try.func52 (by kernel_rfl) rfl #[.slice A0 l0.length c0] rfl mapd ?_; (with_reducible refine (laws_big.calls _ _ l0 false _ ?side1 ?side2 A2.out).mono ?_); (case side1 => repeat (first | exact HR0.out | (with_reducible refine Kd.C_alloc ?_ _) | (with_reducible refine Kd.C_drewN ?_ _) | (with_reducible refine Kd.C_drew ?_))); (case side2 => exact HC0.out); rintro e w' ⟨rfl, ⟨nd, rfl⟩⟩; refine ⟨_, rfl, ?_⟩) | ((with_reducible refine gate_callee (f := 53) rfl ?_); refine goesL_ (some 11) rfl rfl Try.func53 (by kernel_rfl) rfl #[.slice A0 l0.length c0] rfl mapd ?_; (with_reducible refine (spec_DrawGapsOf.calls k _ _ l0 t1202 t1203 t1206 _ ?side1 ?side2 A4.out).mono ?_); (case side1 => repeat (first | exact HR0.out | (with_reducible refine Kd.C_alloc ?_ _) | (with_reducible refine Kd.C_drewN ?_ _) | (with_reducible refine Kd.C_drew ?_))); (case side2 => exact HC0.out); rintro e w8 ⟨v1204, v1207, rfl, ho0, ho1, hb⟩; refine ⟨_, rfl, ?_⟩; have HO1205 := Aside0.mk (Kd.R_lower ho0 (below_size (bl HB.out))); have HO1208 := Aside0.mk (Kd.R_lower ho1 (below_size (bl HB.out))); replace HB := Aside0.mk (below_step (bl HB.out) hb); (try clear hb); (try clear hb2); (try clear hk); (try clear hi); (try clear ho0); (try clear ho1)) | ((with_reducible refine gate_dst (N := 3) rfl ?_); refine bx (cs := #[.int .i64 0, .slice none 0 0, .slice none 0 0]) (t := 30) fun gb1209 hg w9 hbox hb => ?_; replace HO1205 := Aside0.mk (Kd.R_below (rk HO1205.out) hb); replace HO1208 := Aside0.mk (Kd.R_below (rk HO1208.out) hb); have BK1209 := Aside0.mk (hbox); have GW1209 := Aside0.mk (gs HB.out hg); have GE1209 := Aside0.mk (gs HB.out hg); replace HB := Aside0.mk (below_step (bl HB.out) hb); clear hb hbox hg; obtain ⟨hcz10_0, hcz10_1, hcz10_2, hfz10_0, hfz10_1, hfz10_2⟩ := cz3 BK1209.out; obtain ⟨Ao11, co11, eo11⟩ := Kd.R_slice HO1205.out; subst eo11; obtain ⟨Ao12, co12, eo12⟩ := Kd.R_slice HO1208.out; subst eo12) | ((with_reducible refine gate_callee (f := 42) rfl ?_); refine goesL_ (some 13) rfl rfl Try.func42 (by kernel_rfl) rfl #[.agg #[.int .i64 t1202, .slice Ao11 t1203.length co11, .slice Ao12 t1206.length co12]] rfl mapd ?_; (with_reducible refine (impl_GapsOf.calls k t1202 _ _ t1203 _ _ t1206 t1210 _ ?side1 ?side2 ?side3 ?side4 A5.out).mono ?_); (case side1 => refine (Kd.R_reads' (e := 3) (base := w.heap.size) (ok := fun k_ => True) (n := t1203.length) (c := co11) ?_).2.2; exact (by refine rk ?_; exact (Kd.R_mono (Kd.R_far (p := ⟨gb1209, 2, none⟩) (Kd.R_far (p := ⟨gb1209, 1, none⟩) (Kd.R_far (p := ⟨gb1209, 0, none⟩) (Kd.R_types HO1205.out BK1209.out (by decide)) (fun _ hk => hk.2) (.int .i64 t1202)) (fun _ hk => hk.2) (.slice Ao11 t1203.length co11)) (fun _ hk => hk.2) (.slice Ao12 t1206.length co12)) (fun _ h_ => h_.1)))); (case side2 => exact (Kd.R_reads' HO1205.out).2.1); (case side3 => refine (Kd.R_reads' (e := 71) (base := w.heap.size) (ok := fun k_ => True) (n := t1206.length) (c := co12) ?_).2.2; exact (by refine rk ?_; exact (Kd.R_mono (Kd.R_far (p := ⟨gb1209, 2, none⟩) (Kd.R_far (p := ⟨gb1209, 1, none⟩) (Kd.R_far (p := ⟨gb1209, 0, none⟩) (Kd.R_types HO1208.out BK1209.out (by decide)) (fun _ hk => hk.2) (.int .i64 t1202)) (fun _ hk => hk.2) (.slice Ao11 t1203.length co11)) (fun _ hk => hk.2) (.slice Ao12 t1206.length co12)) (fun _ h_ => h_.1)))); (case side4 => exact (Kd.R_reads' HO1208.out).2.1); rintro e w13 ⟨v1211, rfl, ho0, hb⟩; refine ⟨_, rfl, ?_⟩; replace HO1205 := Aside0.mk (Kd.R_below (by refine rk ?_; exact (Kd.R_mono (Kd.R_far (p := ⟨gb1209, 2, none⟩) (Kd.R_far (p := ⟨gb1209, 1, none⟩) (Kd.R_far (p := ⟨gb1209, 0, none⟩) (Kd.R_types HO1205.out BK1209.out (by decide)) (fun _ hk => hk.2) (.int .i64 t1202)) (fun _ hk => hk.2) (.slice Ao11 t1203.length co11)) (fun _ hk => hk.2) (.slice Ao12 t1206.length co12)) (fun _ h_ => h_.1))) hb); replace HO1208 := Aside0.mk (Kd.R_below (by refine rk ?_; exact (Kd.R_mono (Kd.R_far (p := ⟨gb1209, 2, none⟩) (Kd.R_far (p := ⟨gb1209, 1, none⟩) (Kd.R_far (p := ⟨gb1209, 0, none⟩) (Kd.R_types HO1208.out BK1209.out (by decide)) (fun _ hk => hk.2) (.int .i64 t1202)) (fun _ hk => hk.2) (.slice Ao11 t1203.length co11)) (fun _ hk => hk.2) (.slice Ao12 t1206.length co12)) (fun _ h_ => h_.1))) hb); have HO1212 := Aside0.mk (Kd.R_lower ho0 (below_size (bl HB.out))); replace BK1209 := Aside0.mk (blk_below (g := gb1209) (o := .cells #[.int .i64 t1202, .slice Ao11 t1203.length co11, .slice Ao12 t1206.length co12] 30 (0, 0)) (by refine bk ?_; refine blk_put (cs := #[.int .i64 t1202, .slice Ao11 t1203.length co11, .slice none 0 0]) ?_ 2 _ rfl; refine bk ?_; refine blk_put (cs := #[.int .i64 t1202, .slice none 0 0, .slice none 0 0]) ?_ 1 _ rfl; refine bk ?_; refine blk_put (cs := #[.int .i64 0, .slice none 0 0, .slice none 0 0]) ?_ 0 _ rfl; refine bk ?_; exact BK1209.out) hb); replace HB := Aside0.mk (below_step (bl HB.out) hb); (try clear hb); (try clear hb2); (try clear hk); (try clear hi); (try clear ho0); obtain ⟨hcz14_0, hcz14_1, hcz14_2, hfz14_0, hfz14_1, hfz14_2⟩ := cz3 BK1209.out) | ((with_reducible refine gate_callee (f := 51) rfl ?_); refine goesL_ (some 15) rfl rfl Try.func51 (by kernel_rfl) rfl #[.agg #[.int .i64 t1202, .slice Ao11 t1203.length co11, .slice Ao12 t1206.length co12]] rfl mapd ?_; (with_reducible refine (impl_Cleared.calls k t1202 _ _ t1203 _ _ t1206 t1213 t1214 t1217 _ ?side1 ?side2 ?side3 ?side4 A6.out).mono ?_); (case side1 => exact cb ((Kd.R_reads' HO1205.out).2.2)); (case side2 => exact (Kd.R_reads' HO1205.out).2.1); (case side3 => exact cb ((Kd.R_reads' HO1208.out).2.2)); (case side4 => exact (Kd.R_reads' HO1208.out).2.1); rintro e w15 ⟨v1215, v1218, rfl, ho0, ho1, hb⟩; refine ⟨_, rfl, ?_⟩; replace HO1212 := Aside0.mk (Kd.R_below (rk HO1212.out) hb); have HO1216 := Aside0.mk (Kd.R_lower (Kd.R_new' ho0 (Kd.R_lt (rk HO1205.out))) (below_size (bl HB.out))); replace HO1205 := Aside0.mk (Kd.R_elder' (rk HO1205.out) (Kd.R_base ho0) hb); have HO1219 := Aside0.mk (Kd.R_lower (Kd.R_new' ho1 (Kd.R_lt (rk HO1208.out))) (below_size (bl HB.out))); replace HO1208 := Aside0.mk (Kd.R_elder' (rk HO1208.out) (Kd.R_base ho1) hb); replace BK1209 := Aside0.mk (bb BK1209.out hb); replace HB := Aside0.mk (below_step (bl HB.out) hb); (try clear hb); (try clear hb2); (try clear hk); (try clear hi); (try clear ho0); (try clear ho1)) | ((with_reducible refine gate_dst (N := 5) rfl ?_); refine bx (cs := #[.int .i64 0, .slice none 0 0, .slice none 0 0]) (t := 30) fun gb1220 hg w16 hbox hb => ?_; replace HO1205 := Aside0.mk (Kd.R_below (rk HO1205.out) hb); replace HO1208 := Aside0.mk (Kd.R_below (rk HO1208.out) hb); replace HO1212 := Aside0.mk (Kd.R_below (rk HO1212.out) hb); replace HO1216 := Aside0.mk (Kd.R_below (rk HO1216.out) hb); replace HO1219 := Aside0.mk (Kd.R_below (rk HO1219.out) hb); have BK1220 := Aside0.mk (hbox); have GW1220 := Aside0.mk (gs HB.out hg); have GE1220 := Aside0.mk (gs HB.out hg); replace HB := Aside0.mk (below_step (bl HB.out) hb); have NB1209_1220 := Aside0.mk ((nl BK1209.out hg)); have NB1220_1209 := Aside0.mk ((ng BK1209.out hg)); replace BK1209 := Aside0.mk (bb BK1209.out hb); clear hb hbox hg; have hnb17 := NB1220_1209.out; have hnc17 := NB1209_1220.out; obtain ⟨hcz18_0, hcz18_1, hcz18_2, hfz18_0, hfz18_1, hfz18_2⟩ := cz3 BK1220.out; obtain ⟨Ao19, co19, eo19⟩ := Kd.R_slice HO1216.out; subst eo19; obtain ⟨Ao20, co20, eo20⟩ := Kd.R_slice HO1219.out; subst eo20))
  (try simp only [Act.put, List.setIfInBounds_toArray, List.set_cons_zero, List.set_cons_succ])
  go_cut [27] (fun v27 wc => ∃ (kq : Nat) (x27_6 : Bool), v27 = .bool x27_6 ∧ Aside0 (laws_FnGaps.j0 kq t1210 x27_6 t1202 t1203 t1206 t1213 t1214 t1217 = some r) ∧ Aside0 (kq ≤ k) ∧ Aside0 (Kd.R k54 54 wc w.heap.size (fun _ => True) v1211 t1210) ∧ Aside0 (Kd.R (Kd.int .i64) 3 wc w.heap.size (fun k_ => some k_ ≠ ((.slice Ao19 t1214.length co19) : Value).ownBlock) (.slice Ao11 t1203.length co11) t1203) ∧ Aside0 (Kd.R k71 71 wc w.heap.size (fun k_ => some k_ ≠ ((.slice Ao20 t1217.length co20) : Value).ownBlock) (.slice Ao12 t1206.length co12) t1206) ∧ Aside0 (Kd.R (Kd.int .i64) 3 wc w.heap.size (fun k_ => some k_ ≠ ((.slice Ao11 t1203.length co11) : Value).ownBlock) (.slice Ao19 t1214.length co19) t1214) ∧ Aside0 (Kd.R k71 71 wc w.heap.size (fun k_ => some k_ ≠ ((.slice Ao12 t1206.length co12) : Value).ownBlock) (.slice Ao20 t1217.length co20) t1217) ∧ Aside0 (wc.heap[gb1209]? = some (.cells #[.int .i64 t1202, (.slice Ao11 t1203.length co11), (.slice Ao12 t1206.length co12)] 30 (0, 0))) ∧ Aside0 (wc.heap[gb1220]? = some (.cells #[.int .i64 t1213, (.slice Ao19 t1214.length co19), (.slice Ao20 t1217.length co20)] 30 (0, 0))) ∧ Aside0 (Below w.heap.size w wc))
  case first =>
   have H := HC7.out
   clear HC7
   replace H := Option.bind_eq_some_iff.mp H
   obtain ⟨t1221, A210, H⟩ := H
   try dsimp only at H
   have A21 := Aside0.mk A210
   clear A210
   replace H := Option.bind_eq_some_iff.mp H
   obtain ⟨t1224, A220, H⟩ := H
   try dsimp only at H
   have A22 := Aside0.mk A220
   clear A220
   by_cases c23 : t1224 = true
   ·subst c23
    rw [if_pos rfl] at H
    replace H := Option.bind_eq_some_iff.mp H
    obtain ⟨⟨t1225, t1226, t1229⟩, A240, H⟩ := H
    try dsimp only at H
    have A24 := Aside0.mk A240
    clear A240
    replace H := Option.bind_eq_some_iff.mp H
    obtain ⟨t1232, A250, H⟩ := H
    try dsimp only at H
    have A25 := Aside0.mk A250
    clear A250
    have H' := Aside0.mk H
    clear H
    try go_wp2
    have n0_ : Aside0 (Kd.R (Kd.int .i64) 3 (((w16.setCell ⟨gb1220, 0, none⟩ (.int .i64 t1213)).setCell ⟨gb1220, 1, none⟩ (.slice Ao19 t1214.length co19)).setCell ⟨gb1220, 2, none⟩ (.slice Ao20 t1217.length co20)) w.heap.size (fun k_ => some k_ ≠ (.slice Ao19 t1214.length co19 : Value).ownBlock) (.slice Ao11 t1203.length co11) t1203) := ⟨by refine rk ?_; exact Kd.R_mono (Kd.R_far (p := ⟨gb1220, 2, none⟩) (Kd.R_far (p := ⟨gb1220, 1, none⟩) (Kd.R_far (p := ⟨gb1220, 0, none⟩) (Kd.R_types HO1205.out BK1220.out (by decide)) (fun _ hk => hk.2) (.int .i64 t1213)) (fun _ hk => hk.2) (.slice Ao19 t1214.length co19)) (fun _ hk => hk.2) (.slice Ao20 t1217.length co20)) (fun _ hk => hk.1.2)⟩
    have n1_ : Aside0 (Kd.R k71 71 (((w16.setCell ⟨gb1220, 0, none⟩ (.int .i64 t1213)).setCell ⟨gb1220, 1, none⟩ (.slice Ao19 t1214.length co19)).setCell ⟨gb1220, 2, none⟩ (.slice Ao20 t1217.length co20)) w.heap.size (fun k_ => some k_ ≠ (.slice Ao20 t1217.length co20 : Value).ownBlock) (.slice Ao12 t1206.length co12) t1206) := ⟨by refine rk ?_; exact Kd.R_mono (Kd.R_far (p := ⟨gb1220, 2, none⟩) (Kd.R_far (p := ⟨gb1220, 1, none⟩) (Kd.R_far (p := ⟨gb1220, 0, none⟩) (Kd.R_types HO1208.out BK1220.out (by decide)) (fun _ hk => hk.2) (.int .i64 t1213)) (fun _ hk => hk.2) (.slice Ao19 t1214.length co19)) (fun _ hk => hk.2) (.slice Ao20 t1217.length co20)) (fun _ hk => hk.1.2)⟩
    have n2_ : Aside0 (Kd.R k54 54 (((w16.setCell ⟨gb1220, 0, none⟩ (.int .i64 t1213)).setCell ⟨gb1220, 1, none⟩ (.slice Ao19 t1214.length co19)).setCell ⟨gb1220, 2, none⟩ (.slice Ao20 t1217.length co20)) w.heap.size (fun _ => True) v1211 t1210) := ⟨by refine rk ?_; exact Kd.R_mono (Kd.R_far (p := ⟨gb1220, 2, none⟩) (Kd.R_far (p := ⟨gb1220, 1, none⟩) (Kd.R_far (p := ⟨gb1220, 0, none⟩) (Kd.R_types HO1212.out BK1220.out (by decide)) (fun _ hk => hk.2) (.int .i64 t1213)) (fun _ hk => hk.2) (.slice Ao19 t1214.length co19)) (fun _ hk => hk.2) (.slice Ao20 t1217.length co20)) (fun _ hk => trivial)⟩
    have n3_ : Aside0 (Kd.R (Kd.int .i64) 3 (((w16.setCell ⟨gb1220, 0, none⟩ (.int .i64 t1213)).setCell ⟨gb1220, 1, none⟩ (.slice Ao19 t1214.length co19)).setCell ⟨gb1220, 2, none⟩ (.slice Ao20 t1217.length co20)) w.heap.size (fun k_ => some k_ ≠ (.slice Ao11 t1203.length co11 : Value).ownBlock) (.slice Ao19 t1214.length co19) t1214) := ⟨by refine rk ?_; exact Kd.R_mono (Kd.R_far (p := ⟨gb1220, 2, none⟩) (Kd.R_far (p := ⟨gb1220, 1, none⟩) (Kd.R_far (p := ⟨gb1220, 0, none⟩) (Kd.R_types HO1216.out BK1220.out (by decide)) (fun _ hk => hk.2) (.int .i64 t1213)) (fun _ hk => hk.2) (.slice Ao19 t1214.length co19)) (fun _ hk => hk.2) (.slice Ao20 t1217.length co20)) (fun _ hk => hk.1.2)⟩
    have n4_ : Aside0 (Kd.R k71 71 (((w16.setCell ⟨gb1220, 0, none⟩ (.int .i64 t1213)).setCell ⟨gb1220, 1, none⟩ (.slice Ao19 t1214.length co19)).setCell ⟨gb1220, 2, none⟩ (.slice Ao20 t1217.length co20)) w.heap.size (fun k_ => some k_ ≠ (.slice Ao12 t1206.length co12 : Value).ownBlock) (.slice Ao20 t1217.length co20) t1217) := ⟨by refine rk ?_; exact Kd.R_mono (Kd.R_far (p := ⟨gb1220, 2, none⟩) (Kd.R_far (p := ⟨gb1220, 1, none⟩) (Kd.R_far (p := ⟨gb1220, 0, none⟩) (Kd.R_types HO1219.out BK1220.out (by decide)) (fun _ hk => hk.2) (.int .i64 t1213)) (fun _ hk => hk.2) (.slice Ao19 t1214.length co19)) (fun _ hk => hk.2) (.slice Ao20 t1217.length co20)) (fun _ hk => hk.1.2)⟩
    have n5_ : Aside0 ((((w16.setCell ⟨gb1220, 0, none⟩ (.int .i64 t1213)).setCell ⟨gb1220, 1, none⟩ (.slice Ao19 t1214.length co19)).setCell ⟨gb1220, 2, none⟩ (.slice Ao20 t1217.length co20)).heap[gb1209]? = some (.cells #[.int .i64 t1202, .slice Ao11 t1203.length co11, .slice Ao12 t1206.length co12] 30 (0, 0))) := ⟨by refine bk ?_; refine blk_far ?_ NB1209_1220.out _; refine bk ?_; refine blk_far ?_ NB1209_1220.out _; refine bk ?_; refine blk_far ?_ NB1209_1220.out _; refine bk ?_; exact BK1209.out⟩
    have n6_ : Aside0 ((((w16.setCell ⟨gb1220, 0, none⟩ (.int .i64 t1213)).setCell ⟨gb1220, 1, none⟩ (.slice Ao19 t1214.length co19)).setCell ⟨gb1220, 2, none⟩ (.slice Ao20 t1217.length co20)).heap[gb1220]? = some (.cells #[.int .i64 t1213, .slice Ao19 t1214.length co19, .slice Ao20 t1217.length co20] 30 (0, 0))) := ⟨by refine bk ?_; refine blk_put (cs := #[.int .i64 t1213, .slice Ao19 t1214.length co19, .slice none 0 0]) ?_ 2 _ rfl; refine bk ?_; refine blk_put (cs := #[.int .i64 t1213, .slice none 0 0, .slice none 0 0]) ?_ 1 _ rfl; refine bk ?_; refine blk_put (cs := #[.int .i64 0, .slice none 0 0, .slice none 0 0]) ?_ 0 _ rfl; refine bk ?_; exact BK1220.out⟩
    have n7_ : Aside0 (Below w.heap.size w (((w16.setCell ⟨gb1220, 0, none⟩ (.int .i64 t1213)).setCell ⟨gb1220, 1, none⟩ (.slice Ao19 t1214.length co19)).setCell ⟨gb1220, 2, none⟩ (.slice Ao20 t1217.length co20))) := ⟨bl HB.out⟩
    (try clear HO1205)
    (try clear HO1208)
    (try clear HO1212)
    (try clear HO1216)
    (try clear HO1219)
    (try clear BK1209)
    (try clear BK1220)
    (try clear HB)
    generalize (((w16.setCell ⟨gb1220, 0, none⟩ (.int .i64 t1213)).setCell ⟨gb1220, 1, none⟩ (.slice Ao19 t1214.length co19)).setCell ⟨gb1220, 2, none⟩ (.slice Ao20 t1217.length co20)) = w26 at n0_ n1_ n2_ n3_ n4_ n5_ n6_ n7_ ⊢
    have HO1205 := n0_
    have HO1208 := n1_
    have HO1212 := n2_
    have HO1216 := n3_
    have HO1219 := n4_
    have BK1209 := n5_
    have BK1220 := n6_
    have HB := n7_
    clear n0_ n1_ n2_ n3_ n4_ n5_ n6_ n7_
    replace HO1205 := Aside0.mk (Kd.R_drew HO1205.out)
    replace HO1208 := Aside0.mk (Kd.R_drew HO1208.out)
    replace HO1212 := Aside0.mk (Kd.R_drew HO1212.out)
    replace HO1216 := Aside0.mk (Kd.R_drew HO1216.out)
    replace HO1219 := Aside0.mk (Kd.R_drew HO1219.out)
    replace BK1209 := Aside0.mk (blk_drew BK1209.out)
    replace BK1220 := Aside0.mk (blk_drew BK1220.out)
    replace HB := Aside0.mk (below_drew1 HB.out)
    refine start_ (n := 12) (S := fun w' => w'.cell? ⟨gb1209, 0, none⟩ = some (.int .i64 t1202) ∧ w'.cell? ⟨gb1209, 1, none⟩ = some (.slice Ao11 t1203.length co11) ∧ w'.cell? ⟨gb1209, 2, none⟩ = some (.slice Ao12 t1206.length co12) ∧ w'.cell? ⟨gb1220, 0, none⟩ = some (.int .i64 t1213) ∧ w'.cell? ⟨gb1220, 1, none⟩ = some (.slice Ao19 t1214.length co19) ∧ w'.cell? ⟨gb1220, 2, none⟩ = some (.slice Ao20 t1217.length co20)) (ds := []) #[false, false, false, false, false, false, false, false, false, false, false, false] (by kernel_rfl) rfl rfl ⟨(blk_cell BK1209.out 0).trans rfl, (blk_cell BK1209.out 1).trans rfl, (blk_cell BK1209.out 2).trans rfl, (blk_cell BK1220.out 0).trans rfl, (blk_cell BK1220.out 1).trans rfl, (blk_cell BK1220.out 2).trans rfl⟩ (fun hHeld => ?_); refine with_tabW laws_FnGaps.tab6 laws_FnGaps.bits6 (fun HT_ HW_ => ?_)
    generalize w26.drew = w27 at HO1205 HO1208 HO1212 HO1216 HO1219 BK1209 BK1220 HB hHeld ⊢
    refine puA (i := 0) (N := some 16) HT_.out ?_
    refine tkA6 (i := 1) (N := some 17) HT_.out HW_.out hHeld ?_
    refine onA (i := 2) (N := some 18) HT_.out (fun K hK => ?_)
    refine goes_ Try.func41 (by kernel_rfl) rfl #[.agg #[.int .i64 t1202, .slice Ao11 t1203.length co11, .slice Ao12 t1206.length co12]] (by rfl) rfl rfl mapd ?_
    with_reducible refine (spec_GapsOf.calls k t1202 _ _ t1203 _ _ t1206 t1221 _ ?side1 ?side2 ?side3 ?side4 A21.out).mono ?_
    (case side1 => exact cb ((Kd.R_reads' HO1205.out).2.2))
    (case side2 => exact (Kd.R_reads' HO1205.out).2.1)
    (case side3 => exact cb ((Kd.R_reads' HO1208.out).2.2))
    (case side4 => exact (Kd.R_reads' HO1208.out).2.1)
    rintro e w28 ⟨v1222, rfl, ho0, hb⟩
    refine ⟨_, rfl, ?_⟩
    replace HO1205 := Aside0.mk (Kd.R_below (rk HO1205.out) hb)
    replace HO1208 := Aside0.mk (Kd.R_below (rk HO1208.out) hb)
    replace HO1216 := Aside0.mk (Kd.R_below (rk HO1216.out) hb)
    replace HO1219 := Aside0.mk (Kd.R_below (rk HO1219.out) hb)
    have HO1223 := Aside0.mk (Kd.R_lower (Kd.R_new' ho0 (Kd.R_lt (rk HO1212.out))) (below_size (bl HB.out)))
    replace HO1212 := Aside0.mk (Kd.R_elder' (rk HO1212.out) (Kd.R_base ho0) hb)
    replace BK1209 := Aside0.mk (bb BK1209.out hb)
    replace BK1220 := Aside0.mk (bb BK1220.out hb)
    replace HB := Aside0.mk (below_step (bl HB.out) hb)
    (try clear hb)
    (try clear hb2)
    (try clear hk)
    (try clear hi)
    (try clear ho0)
    obtain ⟨Ao29, co29, eo29⟩ := Kd.R_slice HO1212.out
    (first | subst eo29 | (injection eo29 with f1_ f2_ f3_; have f4_ := f1_.symm; have f5_ := f3_.symm; clear f1_ f2_ f3_; subst f4_; subst f5_))
    obtain ⟨Ao30, co30, eo30⟩ := Kd.R_slice HO1223.out
    (first | subst eo30 | (injection eo30 with f1_ f2_ f3_; have f4_ := f1_.symm; have f5_ := f3_.symm; clear f1_ f2_ f3_; subst f4_; subst f5_))
    refine hK.out _ _ ⟨(blk_cell BK1209.out 0).trans rfl, (blk_cell BK1209.out 1).trans rfl, (blk_cell BK1209.out 2).trans rfl, (blk_cell BK1220.out 0).trans rfl, (blk_cell BK1220.out 1).trans rfl, (blk_cell BK1220.out 2).trans rfl⟩ (fun hHeld => ?_)
    clear hK K
    refine norm_ (a' := ?_) ?_ ?_
    rotate_left
    ·show Act.put _ (some 18) _ = _
     simp only [Act.put, List.setIfInBounds_toArray, List.set_cons_zero, List.set_cons_succ, i64_w, i32_w]
     rfl
    refine onA (i := 3) (N := some 19) HT_.out (fun K hK => ?_)
    refine goes_ Try.func54 (by kernel_rfl) rfl #[.slice Ao29 t1210.length co29, .slice Ao30 t1221.length co30] (by rfl) rfl rfl mapd ?_
    with_reducible refine (laws_sameGaps.calls k _ _ t1210 _ _ t1221 true _ ?side1 ?side2 ?side3 ?side4 A22.out).mono ?_
    (case side1 => exact cb ((Kd.R_reads' HO1212.out).2.2))
    (case side2 => exact (Kd.R_reads' HO1212.out).2.1)
    (case side3 => exact cb ((Kd.R_reads' HO1223.out).2.2))
    (case side4 => exact (Kd.R_reads' HO1223.out).2.1)
    rintro e w' ⟨rfl, ⟨nd, rfl⟩⟩
    refine ⟨_, rfl, ?_⟩
    refine hK.out _ _ ⟨(blk_cell BK1209.out 0).trans rfl, (blk_cell BK1209.out 1).trans rfl, (blk_cell BK1209.out 2).trans rfl, (blk_cell BK1220.out 0).trans rfl, (blk_cell BK1220.out 1).trans rfl, (blk_cell BK1220.out 2).trans rfl⟩ (fun hHeld => ?_)
    clear hK K
    refine norm_ (a' := ?_) ?_ ?_
    rotate_left
    ·show Act.put _ (some 19) _ = _
     simp only [Act.put, List.setIfInBounds_toArray, List.set_cons_zero, List.set_cons_succ, i64_w, i32_w]
     rfl
    refine puA (i := 4) (N := some 20) HT_.out ?_
    refine puA (i := 5) (N := some 21) HT_.out ?_
    refine tkA6 (i := 6) (N := some 22) HT_.out HW_.out hHeld ?_
    refine tkA6 (i := 7) (N := some 23) HT_.out HW_.out hHeld ?_
    refine onA (i := 8) (N := some 24) HT_.out (fun K hK => ?_)
    refine goes_ Try.func50 (by kernel_rfl) rfl #[.agg #[.int .i64 t1202, .slice Ao11 t1203.length co11, .slice Ao12 t1206.length co12]] (by rfl) rfl rfl mapd ?_
    with_reducible refine (spec_Cleared.calls k t1202 _ _ t1203 _ _ t1206 t1225 t1226 t1229 _ ?side1 ?side2 ?side3 ?side4 A24.out).mono ?_
    (case side1 => exact cb ((Kd.R_reads' HO1205.out).2.2))
    (case side2 => exact (Kd.R_reads' HO1205.out).2.1)
    (case side3 => exact cb ((Kd.R_reads' HO1208.out).2.2))
    (case side4 => exact (Kd.R_reads' HO1208.out).2.1)
    rintro e w31 ⟨v1227, v1230, rfl, ho0, ho1, hb⟩
    refine ⟨_, rfl, ?_⟩
    replace HO1212 := Aside0.mk (Kd.R_below (rk HO1212.out) hb)
    replace HO1223 := Aside0.mk (Kd.R_below (rk HO1223.out) hb)
    have HO1228 := Aside0.mk (Kd.R_lower (Kd.R_new' (Kd.R_new' ho0 (Kd.R_lt (rk HO1205.out))) (Kd.R_lt (rk HO1216.out))) (below_size (bl HB.out)))
    replace HO1205 := Aside0.mk (Kd.R_elder' (rk HO1205.out) (Kd.R_base ho0) hb)
    replace HO1216 := Aside0.mk (Kd.R_elder' (rk HO1216.out) (Kd.R_base ho0) hb)
    have HO1231 := Aside0.mk (Kd.R_lower (Kd.R_new' (Kd.R_new' ho1 (Kd.R_lt (rk HO1208.out))) (Kd.R_lt (rk HO1219.out))) (below_size (bl HB.out)))
    replace HO1208 := Aside0.mk (Kd.R_elder' (rk HO1208.out) (Kd.R_base ho1) hb)
    replace HO1219 := Aside0.mk (Kd.R_elder' (rk HO1219.out) (Kd.R_base ho1) hb)
    replace BK1209 := Aside0.mk (bb BK1209.out hb)
    replace BK1220 := Aside0.mk (bb BK1220.out hb)
    replace HB := Aside0.mk (below_step (bl HB.out) hb)
    (try clear hb)
    (try clear hb2)
    (try clear hk)
    (try clear hi)
    (try clear ho0)
    (try clear ho1)
    obtain ⟨Ao32, co32, eo32⟩ := Kd.R_slice HO1228.out
    (first | subst eo32 | (injection eo32 with f1_ f2_ f3_; have f4_ := f1_.symm; have f5_ := f3_.symm; clear f1_ f2_ f3_; subst f4_; subst f5_))
    obtain ⟨Ao33, co33, eo33⟩ := Kd.R_slice HO1231.out
    (first | subst eo33 | (injection eo33 with f1_ f2_ f3_; have f4_ := f1_.symm; have f5_ := f3_.symm; clear f1_ f2_ f3_; subst f4_; subst f5_))
    refine hK.out _ _ ⟨(blk_cell BK1209.out 0).trans rfl, (blk_cell BK1209.out 1).trans rfl, (blk_cell BK1209.out 2).trans rfl, (blk_cell BK1220.out 0).trans rfl, (blk_cell BK1220.out 1).trans rfl, (blk_cell BK1220.out 2).trans rfl⟩ (fun hHeld => ?_)
    clear hK K
    refine norm_ (a' := ?_) ?_ ?_
    rotate_left
    ·show Act.put _ (some 24) _ = _
     simp only [Act.put, List.setIfInBounds_toArray, List.set_cons_zero, List.set_cons_succ, i64_w, i32_w]
     rfl
    refine onA (i := 9) (N := some 25) HT_.out (fun K hK => ?_)
    refine goes_ Try.func55 (by kernel_rfl) rfl #[.agg #[.int .i64 t1213, .slice Ao19 t1214.length co19, .slice Ao20 t1217.length co20], .agg #[.int .i64 t1225, .slice Ao32 t1226.length co32, .slice Ao33 t1229.length co33]] (by rfl) rfl rfl mapd ?_
    with_reducible refine (laws_sameColumn.calls k t1213 _ _ t1214 _ _ t1217 t1225 _ _ t1226 _ _ t1229 t1232 _ ?side1 ?side2 ?side3 ?side4 ?side5 ?side6 ?side7 ?side8 A25.out).mono ?_
    (case side1 => exact cb ((Kd.R_reads' HO1216.out).2.2))
    (case side2 => exact (Kd.R_reads' HO1216.out).2.1)
    (case side3 => exact cb ((Kd.R_reads' HO1219.out).2.2))
    (case side4 => exact (Kd.R_reads' HO1219.out).2.1)
    (case side5 => exact cb ((Kd.R_reads' HO1228.out).2.2))
    (case side6 => exact (Kd.R_reads' HO1228.out).2.1)
    (case side7 => exact cb ((Kd.R_reads' HO1231.out).2.2))
    (case side8 => exact (Kd.R_reads' HO1231.out).2.1)
    rintro e w34 ⟨rfl, hb⟩
    refine ⟨_, rfl, ?_⟩
    replace HO1205 := Aside0.mk (Kd.R_below (rk HO1205.out) hb)
    replace HO1208 := Aside0.mk (Kd.R_below (rk HO1208.out) hb)
    replace HO1212 := Aside0.mk (Kd.R_below (rk HO1212.out) hb)
    replace HO1216 := Aside0.mk (Kd.R_below (rk HO1216.out) hb)
    replace HO1219 := Aside0.mk (Kd.R_below (rk HO1219.out) hb)
    replace HO1223 := Aside0.mk (Kd.R_below (rk HO1223.out) hb)
    replace HO1228 := Aside0.mk (Kd.R_below (rk HO1228.out) hb)
    replace HO1231 := Aside0.mk (Kd.R_below (rk HO1231.out) hb)
    replace BK1209 := Aside0.mk (bb BK1209.out hb)
    replace BK1220 := Aside0.mk (bb BK1220.out hb)
    replace HB := Aside0.mk (below_step (bl HB.out) hb)
    (try clear hb)
    (try clear hb2)
    (try clear hk)
    (try clear hi)
    refine hK.out _ _ ⟨(blk_cell BK1209.out 0).trans rfl, (blk_cell BK1209.out 1).trans rfl, (blk_cell BK1209.out 2).trans rfl, (blk_cell BK1220.out 0).trans rfl, (blk_cell BK1220.out 1).trans rfl, (blk_cell BK1220.out 2).trans rfl⟩ (fun hHeld => ?_)
    clear hK K
    refine norm_ (a' := ?_) ?_ ?_
    rotate_left
    ·show Act.put _ (some 25) _ = _
     simp only [Act.put, List.setIfInBounds_toArray, List.set_cons_zero, List.set_cons_succ, i64_w, i32_w]
     rfl
    refine puA (i := 10) (N := some 26) HT_.out ?_
    refine puA (i := 11) (N := some 27) HT_.out ?_
    refine done_ (done_of HT_.out (by kernel_rfl)) ?_
    try go_wp2
    go_meet
    case rel => exact ⟨_, (!t1232), (by first | rfl | (simp; done) | (simp [*]; done)), H', ⟨by first | omega | exact Nat.le_refl _⟩, ⟨by refine rk ?_; exact Kd.R_mono HO1212.out (fun _ hk => trivial)⟩, ⟨by refine rk ?_; exact Kd.R_mono HO1205.out (fun _ hk => hk.1)⟩, ⟨by refine rk ?_; exact Kd.R_mono HO1208.out (fun _ hk => hk.1)⟩, ⟨by refine rk ?_; exact Kd.R_mono HO1216.out (fun _ hk => hk.1)⟩, ⟨by refine rk ?_; exact Kd.R_mono HO1219.out (fun _ hk => hk.1)⟩, ⟨by refine bk ?_; exact BK1209.out⟩, ⟨by refine bk ?_; exact BK1220.out⟩, ⟨bl HB.out⟩⟩
   ·replace c23 := Bool.eq_false_iff.mpr c23
    subst c23
    rw [if_neg (show ¬ (false = true) by decide)] at H
    have H' := Aside0.mk H
    clear H
    try go_wp2
    have n0_ : Aside0 (Kd.R (Kd.int .i64) 3 (((w16.setCell ⟨gb1220, 0, none⟩ (.int .i64 t1213)).setCell ⟨gb1220, 1, none⟩ (.slice Ao19 t1214.length co19)).setCell ⟨gb1220, 2, none⟩ (.slice Ao20 t1217.length co20)) w.heap.size (fun k_ => some k_ ≠ (.slice Ao19 t1214.length co19 : Value).ownBlock) (.slice Ao11 t1203.length co11) t1203) := ⟨by refine rk ?_; exact Kd.R_mono (Kd.R_far (p := ⟨gb1220, 2, none⟩) (Kd.R_far (p := ⟨gb1220, 1, none⟩) (Kd.R_far (p := ⟨gb1220, 0, none⟩) (Kd.R_types HO1205.out BK1220.out (by decide)) (fun _ hk => hk.2) (.int .i64 t1213)) (fun _ hk => hk.2) (.slice Ao19 t1214.length co19)) (fun _ hk => hk.2) (.slice Ao20 t1217.length co20)) (fun _ hk => hk.1.2)⟩
    have n1_ : Aside0 (Kd.R k71 71 (((w16.setCell ⟨gb1220, 0, none⟩ (.int .i64 t1213)).setCell ⟨gb1220, 1, none⟩ (.slice Ao19 t1214.length co19)).setCell ⟨gb1220, 2, none⟩ (.slice Ao20 t1217.length co20)) w.heap.size (fun k_ => some k_ ≠ (.slice Ao20 t1217.length co20 : Value).ownBlock) (.slice Ao12 t1206.length co12) t1206) := ⟨by refine rk ?_; exact Kd.R_mono (Kd.R_far (p := ⟨gb1220, 2, none⟩) (Kd.R_far (p := ⟨gb1220, 1, none⟩) (Kd.R_far (p := ⟨gb1220, 0, none⟩) (Kd.R_types HO1208.out BK1220.out (by decide)) (fun _ hk => hk.2) (.int .i64 t1213)) (fun _ hk => hk.2) (.slice Ao19 t1214.length co19)) (fun _ hk => hk.2) (.slice Ao20 t1217.length co20)) (fun _ hk => hk.1.2)⟩
    have n2_ : Aside0 (Kd.R k54 54 (((w16.setCell ⟨gb1220, 0, none⟩ (.int .i64 t1213)).setCell ⟨gb1220, 1, none⟩ (.slice Ao19 t1214.length co19)).setCell ⟨gb1220, 2, none⟩ (.slice Ao20 t1217.length co20)) w.heap.size (fun _ => True) v1211 t1210) := ⟨by refine rk ?_; exact Kd.R_mono (Kd.R_far (p := ⟨gb1220, 2, none⟩) (Kd.R_far (p := ⟨gb1220, 1, none⟩) (Kd.R_far (p := ⟨gb1220, 0, none⟩) (Kd.R_types HO1212.out BK1220.out (by decide)) (fun _ hk => hk.2) (.int .i64 t1213)) (fun _ hk => hk.2) (.slice Ao19 t1214.length co19)) (fun _ hk => hk.2) (.slice Ao20 t1217.length co20)) (fun _ hk => trivial)⟩
    have n3_ : Aside0 (Kd.R (Kd.int .i64) 3 (((w16.setCell ⟨gb1220, 0, none⟩ (.int .i64 t1213)).setCell ⟨gb1220, 1, none⟩ (.slice Ao19 t1214.length co19)).setCell ⟨gb1220, 2, none⟩ (.slice Ao20 t1217.length co20)) w.heap.size (fun k_ => some k_ ≠ (.slice Ao11 t1203.length co11 : Value).ownBlock) (.slice Ao19 t1214.length co19) t1214) := ⟨by refine rk ?_; exact Kd.R_mono (Kd.R_far (p := ⟨gb1220, 2, none⟩) (Kd.R_far (p := ⟨gb1220, 1, none⟩) (Kd.R_far (p := ⟨gb1220, 0, none⟩) (Kd.R_types HO1216.out BK1220.out (by decide)) (fun _ hk => hk.2) (.int .i64 t1213)) (fun _ hk => hk.2) (.slice Ao19 t1214.length co19)) (fun _ hk => hk.2) (.slice Ao20 t1217.length co20)) (fun _ hk => hk.1.2)⟩
    have n4_ : Aside0 (Kd.R k71 71 (((w16.setCell ⟨gb1220, 0, none⟩ (.int .i64 t1213)).setCell ⟨gb1220, 1, none⟩ (.slice Ao19 t1214.length co19)).setCell ⟨gb1220, 2, none⟩ (.slice Ao20 t1217.length co20)) w.heap.size (fun k_ => some k_ ≠ (.slice Ao12 t1206.length co12 : Value).ownBlock) (.slice Ao20 t1217.length co20) t1217) := ⟨by refine rk ?_; exact Kd.R_mono (Kd.R_far (p := ⟨gb1220, 2, none⟩) (Kd.R_far (p := ⟨gb1220, 1, none⟩) (Kd.R_far (p := ⟨gb1220, 0, none⟩) (Kd.R_types HO1219.out BK1220.out (by decide)) (fun _ hk => hk.2) (.int .i64 t1213)) (fun _ hk => hk.2) (.slice Ao19 t1214.length co19)) (fun _ hk => hk.2) (.slice Ao20 t1217.length co20)) (fun _ hk => hk.1.2)⟩
    have n5_ : Aside0 ((((w16.setCell ⟨gb1220, 0, none⟩ (.int .i64 t1213)).setCell ⟨gb1220, 1, none⟩ (.slice Ao19 t1214.length co19)).setCell ⟨gb1220, 2, none⟩ (.slice Ao20 t1217.length co20)).heap[gb1209]? = some (.cells #[.int .i64 t1202, .slice Ao11 t1203.length co11, .slice Ao12 t1206.length co12] 30 (0, 0))) := ⟨by refine bk ?_; refine blk_far ?_ NB1209_1220.out _; refine bk ?_; refine blk_far ?_ NB1209_1220.out _; refine bk ?_; refine blk_far ?_ NB1209_1220.out _; refine bk ?_; exact BK1209.out⟩
    have n6_ : Aside0 ((((w16.setCell ⟨gb1220, 0, none⟩ (.int .i64 t1213)).setCell ⟨gb1220, 1, none⟩ (.slice Ao19 t1214.length co19)).setCell ⟨gb1220, 2, none⟩ (.slice Ao20 t1217.length co20)).heap[gb1220]? = some (.cells #[.int .i64 t1213, .slice Ao19 t1214.length co19, .slice Ao20 t1217.length co20] 30 (0, 0))) := ⟨by refine bk ?_; refine blk_put (cs := #[.int .i64 t1213, .slice Ao19 t1214.length co19, .slice none 0 0]) ?_ 2 _ rfl; refine bk ?_; refine blk_put (cs := #[.int .i64 t1213, .slice none 0 0, .slice none 0 0]) ?_ 1 _ rfl; refine bk ?_; refine blk_put (cs := #[.int .i64 0, .slice none 0 0, .slice none 0 0]) ?_ 0 _ rfl; refine bk ?_; exact BK1220.out⟩
    have n7_ : Aside0 (Below w.heap.size w (((w16.setCell ⟨gb1220, 0, none⟩ (.int .i64 t1213)).setCell ⟨gb1220, 1, none⟩ (.slice Ao19 t1214.length co19)).setCell ⟨gb1220, 2, none⟩ (.slice Ao20 t1217.length co20))) := ⟨bl HB.out⟩
    (try clear HO1205)
    (try clear HO1208)
    (try clear HO1212)
    (try clear HO1216)
    (try clear HO1219)
    (try clear BK1209)
    (try clear BK1220)
    (try clear HB)
    generalize (((w16.setCell ⟨gb1220, 0, none⟩ (.int .i64 t1213)).setCell ⟨gb1220, 1, none⟩ (.slice Ao19 t1214.length co19)).setCell ⟨gb1220, 2, none⟩ (.slice Ao20 t1217.length co20)) = w35 at n0_ n1_ n2_ n3_ n4_ n5_ n6_ n7_ ⊢
    have HO1205 := n0_
    have HO1208 := n1_
    have HO1212 := n2_
    have HO1216 := n3_
    have HO1219 := n4_
    have BK1209 := n5_
    have BK1220 := n6_
    have HB := n7_
    clear n0_ n1_ n2_ n3_ n4_ n5_ n6_ n7_
    replace HO1205 := Aside0.mk (Kd.R_drew HO1205.out)
    replace HO1208 := Aside0.mk (Kd.R_drew HO1208.out)
    replace HO1212 := Aside0.mk (Kd.R_drew HO1212.out)
    replace HO1216 := Aside0.mk (Kd.R_drew HO1216.out)
    replace HO1219 := Aside0.mk (Kd.R_drew HO1219.out)
    replace BK1209 := Aside0.mk (blk_drew BK1209.out)
    replace BK1220 := Aside0.mk (blk_drew BK1220.out)
    replace HB := Aside0.mk (below_drew1 HB.out)
    refine start_ (n := 12) (S := fun w' => w'.cell? ⟨gb1209, 0, none⟩ = some (.int .i64 t1202) ∧ w'.cell? ⟨gb1209, 1, none⟩ = some (.slice Ao11 t1203.length co11) ∧ w'.cell? ⟨gb1209, 2, none⟩ = some (.slice Ao12 t1206.length co12)) (ds := []) #[false, false, false, false, false, false, false, false, false, false, false, false] (by kernel_rfl) rfl rfl ⟨(blk_cell BK1209.out 0).trans rfl, (blk_cell BK1209.out 1).trans rfl, (blk_cell BK1209.out 2).trans rfl⟩ (fun hHeld => ?_); refine with_tabW laws_FnGaps.tab6 laws_FnGaps.bits6 (fun HT_ HW_ => ?_)
    generalize w35.drew = w36 at HO1205 HO1208 HO1212 HO1216 HO1219 BK1209 BK1220 HB hHeld ⊢
    refine puA (i := 0) (N := some 16) HT_.out ?_
    refine tkA3 (i := 1) (N := some 17) HT_.out HW_.out hHeld ?_
    refine onA (i := 2) (N := some 18) HT_.out (fun K hK => ?_)
    refine goes_ Try.func41 (by kernel_rfl) rfl #[.agg #[.int .i64 t1202, .slice Ao11 t1203.length co11, .slice Ao12 t1206.length co12]] (by rfl) rfl rfl mapd ?_
    with_reducible refine (spec_GapsOf.calls k t1202 _ _ t1203 _ _ t1206 t1221 _ ?side1 ?side2 ?side3 ?side4 A21.out).mono ?_
    (case side1 => exact cb ((Kd.R_reads' HO1205.out).2.2))
    (case side2 => exact (Kd.R_reads' HO1205.out).2.1)
    (case side3 => exact cb ((Kd.R_reads' HO1208.out).2.2))
    (case side4 => exact (Kd.R_reads' HO1208.out).2.1)
    rintro e w37 ⟨v1222, rfl, ho0, hb⟩
    refine ⟨_, rfl, ?_⟩
    replace HO1205 := Aside0.mk (Kd.R_below (rk HO1205.out) hb)
    replace HO1208 := Aside0.mk (Kd.R_below (rk HO1208.out) hb)
    replace HO1216 := Aside0.mk (Kd.R_below (rk HO1216.out) hb)
    replace HO1219 := Aside0.mk (Kd.R_below (rk HO1219.out) hb)
    have HO1223 := Aside0.mk (Kd.R_lower (Kd.R_new' ho0 (Kd.R_lt (rk HO1212.out))) (below_size (bl HB.out)))
    replace HO1212 := Aside0.mk (Kd.R_elder' (rk HO1212.out) (Kd.R_base ho0) hb)
    replace BK1209 := Aside0.mk (bb BK1209.out hb)
    replace BK1220 := Aside0.mk (bb BK1220.out hb)
    replace HB := Aside0.mk (below_step (bl HB.out) hb)
    (try clear hb)
    (try clear hb2)
    (try clear hk)
    (try clear hi)
    (try clear ho0)
    obtain ⟨Ao38, co38, eo38⟩ := Kd.R_slice HO1212.out
    (first | subst eo38 | (injection eo38 with f1_ f2_ f3_; have f4_ := f1_.symm; have f5_ := f3_.symm; clear f1_ f2_ f3_; subst f4_; subst f5_))
    obtain ⟨Ao39, co39, eo39⟩ := Kd.R_slice HO1223.out
    (first | subst eo39 | (injection eo39 with f1_ f2_ f3_; have f4_ := f1_.symm; have f5_ := f3_.symm; clear f1_ f2_ f3_; subst f4_; subst f5_))
    refine hK.out _ _ ⟨(blk_cell BK1209.out 0).trans rfl, (blk_cell BK1209.out 1).trans rfl, (blk_cell BK1209.out 2).trans rfl⟩ (fun hHeld => ?_)
    clear hK K
    refine norm_ (a' := ?_) ?_ ?_
    rotate_left
    ·show Act.put _ (some 18) _ = _
     simp only [Act.put, List.setIfInBounds_toArray, List.set_cons_zero, List.set_cons_succ, i64_w, i32_w]
     rfl
    refine onA (i := 3) (N := some 19) HT_.out (fun K hK => ?_)
    refine goes_ Try.func54 (by kernel_rfl) rfl #[.slice Ao38 t1210.length co38, .slice Ao39 t1221.length co39] (by rfl) rfl rfl mapd ?_
    with_reducible refine (laws_sameGaps.calls k _ _ t1210 _ _ t1221 false _ ?side1 ?side2 ?side3 ?side4 A22.out).mono ?_
    (case side1 => exact cb ((Kd.R_reads' HO1212.out).2.2))
    (case side2 => exact (Kd.R_reads' HO1212.out).2.1)
    (case side3 => exact cb ((Kd.R_reads' HO1223.out).2.2))
    (case side4 => exact (Kd.R_reads' HO1223.out).2.1)
    rintro e w' ⟨rfl, ⟨nd, rfl⟩⟩
    refine ⟨_, rfl, ?_⟩
    refine hK.out _ _ ⟨(blk_cell BK1209.out 0).trans rfl, (blk_cell BK1209.out 1).trans rfl, (blk_cell BK1209.out 2).trans rfl⟩ (fun hHeld => ?_)
    clear hK K
    refine norm_ (a' := ?_) ?_ ?_
    rotate_left
    ·show Act.put _ (some 19) _ = _
     simp only [Act.put, List.setIfInBounds_toArray, List.set_cons_zero, List.set_cons_succ, i64_w, i32_w]
     rfl
    refine puA (i := 4) (N := some 20) HT_.out ?_
    refine puA (i := 5) (N := some 21) HT_.out ?_
    refine puU (i := 6) (N := some 22) HT_.out ?_
    refine puU (i := 7) (N := some 23) HT_.out ?_
    refine puU (i := 8) (N := some 24) HT_.out ?_
    refine puU (i := 9) (N := some 25) HT_.out ?_
    refine puU (i := 10) (N := some 26) HT_.out ?_
    refine puA (i := 11) (N := some 27) HT_.out ?_
    refine done_ (done_of HT_.out (by kernel_rfl)) ?_
    try go_wp2
    go_meet
    case rel => exact ⟨_, (true), (by first | rfl | (simp; done) | (simp [*]; done)), H', ⟨by first | omega | exact Nat.le_refl _⟩, ⟨by refine rk ?_; exact Kd.R_mono HO1212.out (fun _ hk => trivial)⟩, ⟨rk HO1205.out⟩, ⟨rk HO1208.out⟩, ⟨rk HO1216.out⟩, ⟨rk HO1219.out⟩, ⟨by refine bk ?_; exact BK1209.out⟩, ⟨by refine bk ?_; exact BK1220.out⟩, ⟨bl HB.out⟩⟩
  case rest =>
   clear HC7
   try clear c1
   try clear c2
   try clear p2
   try clear c3
   try clear c4
   try clear c5
   try clear c14
   try clear c17
   try clear c23
   try clear hcz10_0
   try clear hcz10_1
   try clear hcz10_2
   try clear hcz14_0
   try clear hcz14_1
   try clear hcz14_2
   try clear hcz18_0
   try clear hcz18_1
   try clear hcz18_2
   try clear hfz10_0
   try clear hfz10_1
   try clear hfz10_2
   try clear hfz14_0
   try clear hfz14_1
   try clear hfz14_2
   try clear hfz18_0
   try clear hfz18_1
   try clear hfz18_2
   obtain ⟨kq, x27_6, rfl, HA, HJ6, HO_4, HO_1210001, HO_1210002, HO_1221001, HO_1221002, BK1209, BK1220, HB⟩ := hcut
   cases kq with
   | zero => exact absurd HA.out (by simp [laws_FnGaps.j0])
   | succ kj6 =>
    have H := HA.out
    clear HA
    simp only [laws_FnGaps.j0] at H
    by_cases c40 : x27_6 = true
    ·subst c40
     rw [if_pos rfl] at H
     exact absurd (Option.some.inj H) (by rw [hr_.out]; decide)
    ·replace c40 := Bool.eq_false_iff.mpr c40
     subst c40
     rw [if_neg (show ¬ (false = true) by decide)] at H
     replace H := Option.bind_eq_some_iff.mp H
     obtain ⟨t1233, A410, H⟩ := H
     try dsimp only at H
     have A41 := Aside0.mk A410
     clear A410
     by_cases c42 : t1233 = true
     ·subst c42
      rw [if_pos rfl] at H
      have H' := Aside0.mk H
      clear H
      have hnb43 := NB1209_1220.out
      have hnc43 := NB1220_1209.out
      obtain ⟨hcz44_0, hcz44_1, hcz44_2, hfz44_0, hfz44_1, hfz44_2⟩ := cz3 BK1209.out
      go_wp2_with (first | ((with_reducible refine gate_callee (f := 18) rfl ?_); refine goesL_ (some 29) rfl rfl Try.func18 (by kernel_rfl) rfl #[.agg #[.int .i64 t1202, .slice Ao11 t1203.length co11, .slice Ao12 t1206.length co12]] rfl mapd ?_; (with_reducible refine (impl_ColumnOk.calls t1202 _ _ t1203 _ _ t1206 true _ ?side1 ?side2 ?side3 ?side4 A41.out).mono ?_); (case side1 => exact cb ((Kd.R_reads' HO_1210001.out).2.2)); (case side2 => exact (Kd.R_reads' HO_1210001.out).2.1); (case side3 => exact cb ((Kd.R_reads' HO_1210002.out).2.2)); (case side4 => exact (Kd.R_reads' HO_1210002.out).2.1); rintro e w45 ⟨rfl, hb⟩; refine ⟨_, rfl, ?_⟩; replace HO_4 := Aside0.mk (Kd.R_below (rk HO_4.out) hb); replace HO_1210001 := Aside0.mk (Kd.R_below (rk HO_1210001.out) hb); replace HO_1210002 := Aside0.mk (Kd.R_below (rk HO_1210002.out) hb); replace HO_1221001 := Aside0.mk (Kd.R_below (rk HO_1221001.out) hb); replace HO_1221002 := Aside0.mk (Kd.R_below (rk HO_1221002.out) hb); replace BK1209 := Aside0.mk (bb BK1209.out hb); replace BK1220 := Aside0.mk (bb BK1220.out hb); replace HB := Aside0.mk (below_step (bl HB.out) hb); (try clear hb); (try clear hb2); (try clear hk); (try clear hi)))
      go_loopg [6, 7] kj6 (fun kq v6 v7 w' => ∃ (x6_2 : Int) (x7_2 : Int), v6 = .int .i64 x6_2 ∧ v7 = .int .i64 x7_2 ∧ Aside0 (laws_FnGaps.l0 kq t1210 x6_2 x7_2 t1202 t1203 t1206 t1213 t1214 t1217 = some r) ∧ Aside0 (kq ≤ kj6) ∧ Aside0 (Kd.R k54 54 w' w.heap.size (fun _ => True) v1211 t1210) ∧ Aside0 (Kd.R (Kd.int .i64) 3 w' w.heap.size (fun k_ => some k_ ≠ ((.slice Ao19 t1214.length co19) : Value).ownBlock) (.slice Ao11 t1203.length co11) t1203) ∧ Aside0 (Kd.R k71 71 w' w.heap.size (fun k_ => some k_ ≠ ((.slice Ao20 t1217.length co20) : Value).ownBlock) (.slice Ao12 t1206.length co12) t1206) ∧ Aside0 (Kd.R (Kd.int .i64) 3 w' w.heap.size (fun k_ => some k_ ≠ ((.slice Ao11 t1203.length co11) : Value).ownBlock) (.slice Ao19 t1214.length co19) t1214) ∧ Aside0 (Kd.R k71 71 w' w.heap.size (fun k_ => some k_ ≠ ((.slice Ao12 t1206.length co12) : Value).ownBlock) (.slice Ao20 t1217.length co20) t1217) ∧ Aside0 (w'.heap[gb1209]? = some (.cells #[.int .i64 t1202, (.slice Ao11 t1203.length co11), (.slice Ao12 t1206.length co12)] 30 (0, 0))) ∧ Aside0 (w'.heap[gb1220]? = some (.cells #[.int .i64 t1213, (.slice Ao19 t1214.length co19), (.slice Ao20 t1217.length co20)] 30 (0, 0))) ∧ Aside0 (Below w.heap.size w w'))
      case atStart => exact ⟨(0), (0), (by first | rfl | (simp; done) | (simp [*]; done)), (by first | rfl | (simp; done) | (simp [*]; done)), H', ⟨Nat.le_refl _⟩, ⟨rk HO_4.out⟩, ⟨rk HO_1210001.out⟩, ⟨rk HO_1210002.out⟩, ⟨rk HO_1221001.out⟩, ⟨rk HO_1221002.out⟩, ⟨by refine bk ?_; exact BK1209.out⟩, ⟨by refine bk ?_; exact BK1220.out⟩, ⟨bl HB.out⟩⟩
      case round =>
       clear H'
       try clear c1
       try clear c2
       try clear p2
       try clear c3
       try clear c4
       try clear c5
       try clear c14
       try clear c17
       try clear c18
       try clear c23
       try clear c40
       try clear c41
       try clear c42
       try clear c43
       try clear hcz10_0
       try clear hcz10_1
       try clear hcz10_2
       try clear hcz14_0
       try clear hcz14_1
       try clear hcz14_2
       try clear hcz18_0
       try clear hcz18_1
       try clear hcz18_2
       try clear hcz44_0
       try clear hcz44_1
       try clear hcz44_2
       try clear hfz10_0
       try clear hfz10_1
       try clear hfz10_2
       try clear hfz14_0
       try clear hfz14_1
       try clear hfz14_2
       try clear hfz18_0
       try clear hfz18_1
       try clear hfz18_2
       try clear hfz44_0
       try clear hfz44_1
       try clear hfz44_2
       try clear p2
       obtain ⟨x6_2, x7_2, rfl, rfl, HA, HK2, HO_4, HO_1210001, HO_1210002, HO_1221001, HO_1221002, BK1209, BK1220, HB⟩ := hrel
       cases gk with
       | zero => exact absurd HA.out (by simp [laws_FnGaps.l0])
       | succ k2 =>
        have H := HA.out
        clear HA
        simp only [laws_FnGaps.l0] at H
        by_cases c46 : x7_2 < (t1206.length : Int)
        ·rw [if_pos c46] at H
         have c46b0 : decide (x7_2 < (t1206.length : Int)) = true := decide_eq_true c46
         clear c46
         by_cases c47 : 0 ≤ x7_2
         ·rw [if_pos c47] at H
          have c47b0 : decide (0 ≤ x7_2) = true := decide_eq_true c47
          clear c47
          by_cases c48 : ((rd_T71 t1206 x7_2).f2) > 0
          ·rw [if_pos c48] at H
           have c48b0 : decide (0 < ((rd_T71 t1206 x7_2).f2)) = true := decide_eq_true c48
           clear c48
           have H' := Aside0.mk H
           clear H
           have hnb49 := NB1209_1220.out
           have hnc49 := NB1220_1209.out
           obtain ⟨hcz50_0, hcz50_1, hcz50_2, hfz50_0, hfz50_1, hfz50_2⟩ := cz3 BK1209.out
           have p1236 : 0 ≤ (x7_2 : Int) := of_decide_eq_true asm
           have q1236 : x7_2 < (t1206.length : Int) := of_decide_eq_true asm
           obtain ⟨ad1236, e1236, hx1236_0, hx1236_1, hx1236_2, hx1236_3⟩ := at_T71 (Kd.R_reads' HO_1210002.out).2.2 x7_2 p1236 q1236
           cases e1236
           replace p1236 := eq_true p1236
           replace q1236 := eq_true q1236
           have p1238 : 0 ≤ (x7_2 : Int) := of_decide_eq_true asm
           have q1238 : x7_2 < (t1206.length : Int) := of_decide_eq_true asm
           obtain ⟨ad1238, e1238, hx1238_0, hx1238_1, hx1238_2, hx1238_3⟩ := at_T71 (Kd.R_reads' HO_1210002.out).2.2 x7_2 p1238 q1238
           obtain rfl : ad1236 = ad1238 := (by injection e1238)
           replace p1238 := eq_true p1238
           replace q1238 := eq_true q1238
           go_wp2
           go_roundg k2
           case measure => have := HJ6.out; have := HK2.out; omega
           case rel => exact ⟨(wrap64 (x6_2 + ((rd_T71 t1206 x7_2).f1))), (wrap64 (x7_2 + 1)), (by first | rfl | (simp; done) | (simp [*]; done)), (by first | rfl | (simp; done) | (simp [*]; done)), H', ⟨by have := HJ6.out; have := HK2.out; omega⟩, ⟨rk HO_4.out⟩, ⟨rk HO_1210001.out⟩, ⟨rk HO_1210002.out⟩, ⟨rk HO_1221001.out⟩, ⟨rk HO_1221002.out⟩, ⟨by refine bk ?_; exact BK1209.out⟩, ⟨by refine bk ?_; exact BK1220.out⟩, ⟨bl HB.out⟩⟩
          ·rw [if_neg c48] at H
           have c48b0 : decide (0 < ((rd_T71 t1206 x7_2).f2)) = false := decide_eq_false c48
           clear c48
           obtain ⟨bq51, hbq51⟩ : ∃ b_ : Bool, b_ = ((rd_T71 t1206 x7_2).f3) := ⟨_, rfl⟩
           replace H : (if bq51 = true then (laws_FnGaps.l0 k2 t1210 (wrap64 (x6_2 + ((rd_T71 t1206 x7_2).f1))) (wrap64 (x7_2 + 1)) t1202 t1203 t1206 t1213 t1214 t1217) else (laws_FnGaps.l0 k2 t1210 x6_2 (wrap64 (x7_2 + 1)) t1202 t1203 t1206 t1213 t1214 t1217)) = some r := by rw [← hbq51] at H; exact H
           have Nbq51 := Aside0.mk hbq51
           clear hbq51
           by_cases c52 : bq51 = true
           ·subst c52
            rw [if_pos rfl] at H
            have H' := Aside0.mk H
            clear H
            have hnb53 := NB1209_1220.out
            have hnc53 := NB1220_1209.out
            obtain ⟨hcz54_0, hcz54_1, hcz54_2, hfz54_0, hfz54_1, hfz54_2⟩ := cz3 BK1209.out
            have p1236 : 0 ≤ (x7_2 : Int) := of_decide_eq_true asm
            have q1236 : x7_2 < (t1206.length : Int) := of_decide_eq_true asm
            obtain ⟨ad1236, e1236, hx1236_0, hx1236_1, hx1236_2, hx1236_3⟩ := at_T71 (Kd.R_reads' HO_1210002.out).2.2 x7_2 p1236 q1236
            (try rw [← Nbq51.out] at hx1236_3)
            cases e1236
            replace p1236 := eq_true p1236
            replace q1236 := eq_true q1236
            have p1237 : 0 ≤ (x7_2 : Int) := of_decide_eq_true asm
            have q1237 : x7_2 < (t1206.length : Int) := of_decide_eq_true asm
            obtain ⟨ad1237, e1237, hx1237_0, hx1237_1, hx1237_2, hx1237_3⟩ := at_T71 (Kd.R_reads' HO_1210002.out).2.2 x7_2 p1237 q1237
            (try rw [← Nbq51.out] at hx1237_3)
            obtain rfl : ad1236 = ad1237 := (by injection e1237)
            replace p1237 := eq_true p1237
            replace q1237 := eq_true q1237
            have p1239 : 0 ≤ (x7_2 : Int) := of_decide_eq_true asm
            have q1239 : x7_2 < (t1206.length : Int) := of_decide_eq_true asm
            obtain ⟨ad1239, e1239, hx1239_0, hx1239_1, hx1239_2, hx1239_3⟩ := at_T71 (Kd.R_reads' HO_1210002.out).2.2 x7_2 p1239 q1239
            (try rw [← Nbq51.out] at hx1239_3)
            obtain rfl : ad1236 = ad1239 := (by injection e1239)
            replace p1239 := eq_true p1239
            replace q1239 := eq_true q1239
            go_wp2
            go_roundg k2
            case measure => have := HJ6.out; have := HK2.out; omega
            case rel => exact ⟨(wrap64 (x6_2 + ((rd_T71 t1206 x7_2).f1))), (wrap64 (x7_2 + 1)), (by first | rfl | (simp; done) | (simp [*]; done)), (by first | rfl | (simp; done) | (simp [*]; done)), H', ⟨by have := HJ6.out; have := HK2.out; omega⟩, ⟨rk HO_4.out⟩, ⟨rk HO_1210001.out⟩, ⟨rk HO_1210002.out⟩, ⟨rk HO_1221001.out⟩, ⟨rk HO_1221002.out⟩, ⟨by refine bk ?_; exact BK1209.out⟩, ⟨by refine bk ?_; exact BK1220.out⟩, ⟨bl HB.out⟩⟩
           ·replace c52 := Bool.eq_false_iff.mpr c52
            subst c52
            rw [if_neg (show ¬ (false = true) by decide)] at H
            have H' := Aside0.mk H
            clear H
            have hnb55 := NB1209_1220.out
            have hnc55 := NB1220_1209.out
            obtain ⟨hcz56_0, hcz56_1, hcz56_2, hfz56_0, hfz56_1, hfz56_2⟩ := cz3 BK1209.out
            have p1236 : 0 ≤ (x7_2 : Int) := of_decide_eq_true asm
            have q1236 : x7_2 < (t1206.length : Int) := of_decide_eq_true asm
            obtain ⟨ad1236, e1236, hx1236_0, hx1236_1, hx1236_2, hx1236_3⟩ := at_T71 (Kd.R_reads' HO_1210002.out).2.2 x7_2 p1236 q1236
            (try rw [← Nbq51.out] at hx1236_3)
            cases e1236
            replace p1236 := eq_true p1236
            replace q1236 := eq_true q1236
            have p1237 : 0 ≤ (x7_2 : Int) := of_decide_eq_true asm
            have q1237 : x7_2 < (t1206.length : Int) := of_decide_eq_true asm
            obtain ⟨ad1237, e1237, hx1237_0, hx1237_1, hx1237_2, hx1237_3⟩ := at_T71 (Kd.R_reads' HO_1210002.out).2.2 x7_2 p1237 q1237
            (try rw [← Nbq51.out] at hx1237_3)
            obtain rfl : ad1236 = ad1237 := (by injection e1237)
            replace p1237 := eq_true p1237
            replace q1237 := eq_true q1237
            go_wp2
            go_roundg k2
            case measure => have := HJ6.out; have := HK2.out; omega
            case rel => exact ⟨(x6_2), (wrap64 (x7_2 + 1)), (by first | rfl | (simp; done) | (simp [*]; done)), (by first | rfl | (simp; done) | (simp [*]; done)), H', ⟨by have := HJ6.out; have := HK2.out; omega⟩, ⟨rk HO_4.out⟩, ⟨rk HO_1210001.out⟩, ⟨rk HO_1210002.out⟩, ⟨rk HO_1221001.out⟩, ⟨rk HO_1221002.out⟩, ⟨by refine bk ?_; exact BK1209.out⟩, ⟨by refine bk ?_; exact BK1220.out⟩, ⟨bl HB.out⟩⟩
         ·rw [if_neg c47] at H
          exact absurd H (by simp)
        ·rw [if_neg c46] at H
         have c46b0 : decide (x7_2 < (t1206.length : Int)) = false := decide_eq_false c46
         clear c46
         replace H := Option.bind_eq_some_iff.mp H
         obtain ⟨t1240, A570, H⟩ := H
         try dsimp only at H
         have A57 := Aside0.mk A570
         clear A570
         by_cases c58 : t1240 = true
         ·subst c58
          rw [if_pos rfl] at H
          replace H := Option.bind_eq_some_iff.mp H
          obtain ⟨t1241, A590, H⟩ := H
          try dsimp only at H
          have A59 := Aside0.mk A590
          clear A590
          replace H := Option.bind_eq_some_iff.mp H
          obtain ⟨t1244, A600, H⟩ := H
          try dsimp only at H
          have A60 := Aside0.mk A600
          clear A600
          by_cases c61 : t1244 = true
          ·subst c61
           rw [if_pos rfl] at H
           replace H := Option.bind_eq_some_iff.mp H
           obtain ⟨t1245, A620, H⟩ := H
           try dsimp only at H
           have A62 := Aside0.mk A620
           clear A620
           obtain rfl := Option.some.inj H
           have hnb63 := NB1209_1220.out
           have hnc63 := NB1220_1209.out
           obtain ⟨hcz64_0, hcz64_1, hcz64_2, hfz64_0, hfz64_1, hfz64_2⟩ := cz3 BK1209.out
           try go_wp2
           replace HO_4 := Aside0.mk (Kd.R_drew HO_4.out)
           replace HO_1210001 := Aside0.mk (Kd.R_drew HO_1210001.out)
           replace HO_1210002 := Aside0.mk (Kd.R_drew HO_1210002.out)
           replace HO_1221001 := Aside0.mk (Kd.R_drew HO_1221001.out)
           replace HO_1221002 := Aside0.mk (Kd.R_drew HO_1221002.out)
           replace BK1209 := Aside0.mk (blk_drew BK1209.out)
           replace BK1220 := Aside0.mk (blk_drew BK1220.out)
           replace HB := Aside0.mk (below_drew1 HB.out)
           refine start_ (n := 18) (S := fun w' => w'.cell? ⟨gb1220, 0, none⟩ = some (.int .i64 t1213) ∧ w'.cell? ⟨gb1220, 1, none⟩ = some (.slice Ao19 t1214.length co19) ∧ w'.cell? ⟨gb1220, 2, none⟩ = some (.slice Ao20 t1217.length co20) ∧ w'.cell? ⟨gb1209, 0, none⟩ = some (.int .i64 t1202) ∧ w'.cell? ⟨gb1209, 1, none⟩ = some (.slice Ao11 t1203.length co11) ∧ w'.cell? ⟨gb1209, 2, none⟩ = some (.slice Ao12 t1206.length co12)) (ds := []) #[false, false, false, false, false, false, false, false, false, false, false, false, false, false, false, false, false, false] (by kernel_rfl) rfl rfl ⟨(blk_cell BK1220.out 0).trans rfl, (blk_cell BK1220.out 1).trans rfl, (blk_cell BK1220.out 2).trans rfl, (blk_cell BK1209.out 0).trans rfl, (blk_cell BK1209.out 1).trans rfl, (blk_cell BK1209.out 2).trans rfl⟩ (fun hHeld => ?_); refine with_tabW laws_FnGaps.tab16 laws_FnGaps.bits16 (fun HT_ HW_ => ?_)
           generalize wr.drew = w65 at HO_4 HO_1210001 HO_1210002 HO_1221001 HO_1221002 BK1209 BK1220 HB hHeld ⊢
           refine tkA6 (i := 0) (N := some 74) HT_.out HW_.out hHeld ?_
           refine onA (i := 1) (N := some 75) HT_.out (fun K hK => ?_)
           refine goes_ Try.func18 (by kernel_rfl) rfl #[.agg #[.int .i64 t1213, .slice Ao19 t1214.length co19, .slice Ao20 t1217.length co20]] (by rfl) rfl rfl mapd ?_
           with_reducible refine (impl_ColumnOk.calls t1213 _ _ t1214 _ _ t1217 true _ ?side1 ?side2 ?side3 ?side4 A57.out).mono ?_
           (case side1 => exact cb ((Kd.R_reads' HO_1221001.out).2.2))
           (case side2 => exact (Kd.R_reads' HO_1221001.out).2.1)
           (case side3 => exact cb ((Kd.R_reads' HO_1221002.out).2.2))
           (case side4 => exact (Kd.R_reads' HO_1221002.out).2.1)
           rintro e w66 ⟨rfl, hb⟩
           refine ⟨_, rfl, ?_⟩
           replace HO_4 := Aside0.mk (Kd.R_below (rk HO_4.out) hb)
           replace HO_1210001 := Aside0.mk (Kd.R_below (rk HO_1210001.out) hb)
           replace HO_1210002 := Aside0.mk (Kd.R_below (rk HO_1210002.out) hb)
           replace HO_1221001 := Aside0.mk (Kd.R_below (rk HO_1221001.out) hb)
           replace HO_1221002 := Aside0.mk (Kd.R_below (rk HO_1221002.out) hb)
           replace BK1209 := Aside0.mk (bb BK1209.out hb)
           replace BK1220 := Aside0.mk (bb BK1220.out hb)
           replace HB := Aside0.mk (below_step (bl HB.out) hb)
           (try clear hb)
           (try clear hb2)
           (try clear hk)
           (try clear hi)
           refine hK.out _ _ ⟨(blk_cell BK1220.out 0).trans rfl, (blk_cell BK1220.out 1).trans rfl, (blk_cell BK1220.out 2).trans rfl, (blk_cell BK1209.out 0).trans rfl, (blk_cell BK1209.out 1).trans rfl, (blk_cell BK1209.out 2).trans rfl⟩ (fun hHeld => ?_)
           clear hK K
           refine norm_ (a' := ?_) ?_ ?_
           rotate_left
           ·show Act.put _ (some 75) _ = _
            simp only [Act.put, List.setIfInBounds_toArray, List.set_cons_zero, List.set_cons_succ, i64_w, i32_w]
            rfl
           refine puA (i := 2) (N := some 76) HT_.out ?_
           refine puA (i := 5) (N := some 79) HT_.out ?_
           refine tkA6 (i := 3) (N := some 77) HT_.out HW_.out hHeld ?_
           refine onA (i := 4) (N := some 78) HT_.out (fun K hK => ?_)
           refine goes_ Try.func42 (by kernel_rfl) rfl #[.agg #[.int .i64 t1213, .slice Ao19 t1214.length co19, .slice Ao20 t1217.length co20]] (by rfl) rfl rfl mapd ?_
           with_reducible refine (impl_GapsOf.calls k2 t1213 _ _ t1214 _ _ t1217 t1241 _ ?side1 ?side2 ?side3 ?side4 A59.out).mono ?_
           (case side1 => exact cb ((Kd.R_reads' HO_1221001.out).2.2))
           (case side2 => exact (Kd.R_reads' HO_1221001.out).2.1)
           (case side3 => exact cb ((Kd.R_reads' HO_1221002.out).2.2))
           (case side4 => exact (Kd.R_reads' HO_1221002.out).2.1)
           rintro e w67 ⟨v1242, rfl, ho0, hb⟩
           refine ⟨_, rfl, ?_⟩
           replace HO_1210001 := Aside0.mk (Kd.R_below (rk HO_1210001.out) hb)
           replace HO_1210002 := Aside0.mk (Kd.R_below (rk HO_1210002.out) hb)
           replace HO_1221001 := Aside0.mk (Kd.R_below (rk HO_1221001.out) hb)
           replace HO_1221002 := Aside0.mk (Kd.R_below (rk HO_1221002.out) hb)
           have HO1243 := Aside0.mk (Kd.R_lower (Kd.R_new' ho0 (Kd.R_lt (rk HO_4.out))) (below_size (bl HB.out)))
           replace HO_4 := Aside0.mk (Kd.R_elder' (rk HO_4.out) (Kd.R_base ho0) hb)
           replace BK1209 := Aside0.mk (bb BK1209.out hb)
           replace BK1220 := Aside0.mk (bb BK1220.out hb)
           replace HB := Aside0.mk (below_step (bl HB.out) hb)
           (try clear hb)
           (try clear hb2)
           (try clear hk)
           (try clear hi)
           (try clear ho0)
           obtain ⟨Ao68, co68, eo68⟩ := Kd.R_slice HO1243.out
           (first | subst eo68 | (injection eo68 with f1_ f2_ f3_; have f4_ := f1_.symm; have f5_ := f3_.symm; clear f1_ f2_ f3_; subst f4_; subst f5_))
           obtain ⟨Ao69, co69, eo69⟩ := Kd.R_slice HO_4.out
           (first | subst eo69 | (injection eo69 with f1_ f2_ f3_; have f4_ := f1_.symm; have f5_ := f3_.symm; clear f1_ f2_ f3_; subst f4_; subst f5_))
           refine hK.out _ _ ⟨(blk_cell BK1220.out 0).trans rfl, (blk_cell BK1220.out 1).trans rfl, (blk_cell BK1220.out 2).trans rfl, (blk_cell BK1209.out 0).trans rfl, (blk_cell BK1209.out 1).trans rfl, (blk_cell BK1209.out 2).trans rfl⟩ (fun hHeld => ?_)
           clear hK K
           refine norm_ (a' := ?_) ?_ ?_
           rotate_left
           ·show Act.put _ (some 78) _ = _
            simp only [Act.put, List.setIfInBounds_toArray, List.set_cons_zero, List.set_cons_succ, i64_w, i32_w]
            rfl
           refine onA (i := 6) (N := some 80) HT_.out (fun K hK => ?_)
           refine goes_ Try.func54 (by kernel_rfl) rfl #[.slice Ao68 t1241.length co68, .slice Ao69 t1210.length co69] (by rfl) rfl rfl mapd ?_
           with_reducible refine (laws_sameGaps.calls k2 _ _ t1241 _ _ t1210 true _ ?side1 ?side2 ?side3 ?side4 A60.out).mono ?_
           (case side1 => exact cb ((Kd.R_reads' HO1243.out).2.2))
           (case side2 => exact (Kd.R_reads' HO1243.out).2.1)
           (case side3 => exact cb ((Kd.R_reads' HO_4.out).2.2))
           (case side4 => exact (Kd.R_reads' HO_4.out).2.1)
           rintro e w' ⟨rfl, ⟨nd, rfl⟩⟩
           refine ⟨_, rfl, ?_⟩
           refine hK.out _ _ ⟨(blk_cell BK1220.out 0).trans rfl, (blk_cell BK1220.out 1).trans rfl, (blk_cell BK1220.out 2).trans rfl, (blk_cell BK1209.out 0).trans rfl, (blk_cell BK1209.out 1).trans rfl, (blk_cell BK1209.out 2).trans rfl⟩ (fun hHeld => ?_)
           clear hK K
           refine norm_ (a' := ?_) ?_ ?_
           rotate_left
           ·show Act.put _ (some 80) _ = _
            simp only [Act.put, List.setIfInBounds_toArray, List.set_cons_zero, List.set_cons_succ, i64_w, i32_w]
            rfl
           refine puA (i := 7) (N := some 81) HT_.out ?_
           refine puA (i := 8) (N := some 82) HT_.out ?_
           refine puA (i := 9) (N := some 83) HT_.out ?_
           refine puA (i := 11) (N := some 85) HT_.out ?_
           refine puA (i := 13) (N := some 87) HT_.out ?_
           refine tkA6 (i := 14) (N := some 88) HT_.out HW_.out hHeld ?_
           refine onA (i := 10) (N := some 84) HT_.out (fun K hK => ?_)
           refine goes_ Try.func56 (by kernel_rfl) rfl #[.slice Ao69 t1210.length co69] (by rfl) rfl rfl mapd ?_
           with_reducible refine (laws_room.calls k2 _ _ t1210 t1245 _ ?side1 ?side2 A62.out).mono ?_
           (case side1 => exact cb ((Kd.R_reads' HO_4.out).2.2))
           (case side2 => exact (Kd.R_reads' HO_4.out).2.1)
           rintro e w' ⟨rfl, ⟨nd, rfl⟩⟩
           refine ⟨_, rfl, ?_⟩
           refine hK.out _ _ ⟨(blk_cell BK1220.out 0).trans rfl, (blk_cell BK1220.out 1).trans rfl, (blk_cell BK1220.out 2).trans rfl, (blk_cell BK1209.out 0).trans rfl, (blk_cell BK1209.out 1).trans rfl, (blk_cell BK1209.out 2).trans rfl⟩ (fun hHeld => ?_)
           clear hK K
           refine norm_ (a' := ?_) ?_ ?_
           rotate_left
           ·show Act.put _ (some 84) _ = _
            simp only [Act.put, List.setIfInBounds_toArray, List.set_cons_zero, List.set_cons_succ, i64_w, i32_w]
            rfl
           refine puA (i := 12) (N := some 86) HT_.out ?_
           refine puA (i := 15) (N := some 89) HT_.out ?_
           refine puA (i := 16) (N := some 90) HT_.out ?_
           refine puA (i := 17) (N := some 2) HT_.out ?_
           refine done_ (done_of HT_.out (by kernel_rfl)) ?_
           try go_wp2
           go_ret
           exact ⟨by first | rfl | (simp [errW_none, errW_some] <;> rfl) | (simp [*, errW_none, errW_some] <;> rfl), bl HB.out⟩
          ·replace c61 := Bool.eq_false_iff.mpr c61
           subst c61
           rw [if_neg (show ¬ (false = true) by decide)] at H
           exact absurd (Option.some.inj H) (by rw [hr_.out]; decide)
         ·replace c58 := Bool.eq_false_iff.mpr c58
          subst c58
          rw [if_neg (show ¬ (false = true) by decide)] at H
          exact absurd (Option.some.inj H) (by rw [hr_.out]; decide)
     ·replace c42 := Bool.eq_false_iff.mpr c42
      subst c42
      rw [if_neg (show ¬ (false = true) by decide)] at H
      by_cases c70 : (t1210.length : Int) = 0
      ·rw [if_pos c70] at H
       have c70b0 : ((t1210.length : Int) == 0) = true := beq_iff_eq.mpr c70
       have c70b1 : ((t1210.length : Int) != 0) = false := bne_eq_false_iff_eq.mpr c70
       clear c70
       replace H := Option.bind_eq_some_iff.mp H
       obtain ⟨t1234, A710, H⟩ := H
       try dsimp only at H
       have A71 := Aside0.mk A710
       clear A710
       by_cases c72 : t1234 = true
       ·subst c72
        rw [if_pos rfl] at H
        replace H := Option.bind_eq_some_iff.mp H
        obtain ⟨t1235, A730, H⟩ := H
        try dsimp only at H
        have A73 := Aside0.mk A730
        clear A730
        obtain rfl := Option.some.inj H
        have hnb74 := NB1209_1220.out
        have hnc74 := NB1220_1209.out
        obtain ⟨hcz75_0, hcz75_1, hcz75_2, hfz75_0, hfz75_1, hfz75_2⟩ := cz3 BK1209.out
        go_wp2_with (first | ((with_reducible refine gate_callee (f := 18) rfl ?_); refine goesL_ (some 29) rfl rfl Try.func18 (by kernel_rfl) rfl #[.agg #[.int .i64 t1202, .slice Ao11 t1203.length co11, .slice Ao12 t1206.length co12]] rfl mapd ?_; (with_reducible refine (impl_ColumnOk.calls t1202 _ _ t1203 _ _ t1206 false _ ?side1 ?side2 ?side3 ?side4 A41.out).mono ?_); (case side1 => exact cb ((Kd.R_reads' HO_1210001.out).2.2)); (case side2 => exact (Kd.R_reads' HO_1210001.out).2.1); (case side3 => exact cb ((Kd.R_reads' HO_1210002.out).2.2)); (case side4 => exact (Kd.R_reads' HO_1210002.out).2.1); rintro e w76 ⟨rfl, hb⟩; refine ⟨_, rfl, ?_⟩; replace HO_4 := Aside0.mk (Kd.R_below (rk HO_4.out) hb); replace HO_1210001 := Aside0.mk (Kd.R_below (rk HO_1210001.out) hb); replace HO_1210002 := Aside0.mk (Kd.R_below (rk HO_1210002.out) hb); replace HO_1221001 := Aside0.mk (Kd.R_below (rk HO_1221001.out) hb); replace HO_1221002 := Aside0.mk (Kd.R_below (rk HO_1221002.out) hb); replace BK1209 := Aside0.mk (bb BK1209.out hb); replace BK1220 := Aside0.mk (bb BK1220.out hb); replace HB := Aside0.mk (below_step (bl HB.out) hb); (try clear hb); (try clear hb2); (try clear hk); (try clear hi); obtain ⟨Ao77, co77, eo77⟩ := Kd.R_slice HO_4.out; subst eo77; obtain ⟨hcz78_0, hcz78_1, hcz78_2, hfz78_0, hfz78_1, hfz78_2⟩ := cz3 BK1220.out; obtain ⟨hcz79_0, hcz79_1, hcz79_2, hfz79_0, hfz79_1, hfz79_2⟩ := cz3 BK1209.out) | (go_at_call 55; (with_reducible refine (laws_sameColumn.calls kj6 t1213 _ _ t1214 _ _ t1217 t1202 _ _ t1203 _ _ t1206 true _ ?side1 ?side2 ?side3 ?side4 ?side5 ?side6 ?side7 ?side8 A71.out).mono ?_); (case side1 => exact cb ((Kd.R_reads' HO_1221001.out).2.2)); (case side2 => exact (Kd.R_reads' HO_1221001.out).2.1); (case side3 => exact cb ((Kd.R_reads' HO_1221002.out).2.2)); (case side4 => exact (Kd.R_reads' HO_1221002.out).2.1); (case side5 => exact cb ((Kd.R_reads' HO_1210001.out).2.2)); (case side6 => exact (Kd.R_reads' HO_1210001.out).2.1); (case side7 => exact cb ((Kd.R_reads' HO_1210002.out).2.2)); (case side8 => exact (Kd.R_reads' HO_1210002.out).2.1); rintro e w80 ⟨rfl, hb⟩; replace HO_4 := Aside0.mk (Kd.R_below (rk HO_4.out) hb); replace HO_1210001 := Aside0.mk (Kd.R_below (rk HO_1210001.out) hb); replace HO_1210002 := Aside0.mk (Kd.R_below (rk HO_1210002.out) hb); replace HO_1221001 := Aside0.mk (Kd.R_below (rk HO_1221001.out) hb); replace HO_1221002 := Aside0.mk (Kd.R_below (rk HO_1221002.out) hb); replace BK1209 := Aside0.mk (bb BK1209.out hb); replace BK1220 := Aside0.mk (bb BK1220.out hb); replace HB := Aside0.mk (below_step (bl HB.out) hb); (try clear hb); (try clear hb2); (try clear hk); (try clear hi); obtain ⟨hcz81_0, hcz81_1, hcz81_2, hfz81_0, hfz81_1, hfz81_2⟩ := cz3 BK1209.out) | (go_at_call 16; (with_reducible refine (spec_ColumnOk.calls kj6 t1202 _ _ t1203 _ _ t1206 t1235 _ ?side1 ?side2 ?side3 ?side4 A73.out).mono ?_); (case side1 => exact cb ((Kd.R_reads' HO_1210001.out).2.2)); (case side2 => exact (Kd.R_reads' HO_1210001.out).2.1); (case side3 => exact cb ((Kd.R_reads' HO_1210002.out).2.2)); (case side4 => exact (Kd.R_reads' HO_1210002.out).2.1); rintro e w82 ⟨rfl, hb⟩; replace HO_4 := Aside0.mk (Kd.R_below (rk HO_4.out) hb); replace HO_1210001 := Aside0.mk (Kd.R_below (rk HO_1210001.out) hb); replace HO_1210002 := Aside0.mk (Kd.R_below (rk HO_1210002.out) hb); replace HO_1221001 := Aside0.mk (Kd.R_below (rk HO_1221001.out) hb); replace HO_1221002 := Aside0.mk (Kd.R_below (rk HO_1221002.out) hb); replace BK1209 := Aside0.mk (bb BK1209.out hb); replace BK1220 := Aside0.mk (bb BK1220.out hb); replace HB := Aside0.mk (below_step (bl HB.out) hb); (try clear hb); (try clear hb2); (try clear hk); (try clear hi)))
        go_ret
        exact ⟨by first | rfl | (simp [errW_none, errW_some] <;> rfl) | (simp [*, errW_none, errW_some] <;> rfl), bl HB.out⟩
       ·replace c72 := Bool.eq_false_iff.mpr c72
        subst c72
        rw [if_neg (show ¬ (false = true) by decide)] at H
        exact absurd (Option.some.inj H) (by rw [hr_.out]; decide)
      ·rw [if_neg c70] at H
       have c70b0 : ((t1210.length : Int) == 0) = false := beq_eq_false_iff_ne.mpr c70
       have c70b1 : ((t1210.length : Int) != 0) = true := bne_iff_ne.mpr c70
       have c70b2 : ¬ (t1210 = []) := fun h_ => c70 (by rw [h_]; rfl)
       exact absurd (Option.some.inj H) (by rw [hr_.out]; decide)
end Go.Proofs.Ytghfeapncmlihaa.A

namespace Go.Proofs.Ytghfeapncmlihaa.A
open Go.ChangeShapes Go.WideShapes Go.ChangeAt Go.RowKit Go.Proofs.YtghfeapncmlihaaW.PrintWords Go.Proofs.YtghfeapncmlihaaW.PrintLast
set_option linter.unusedVariables false
set_option linter.unusedSimpArgs false
def Opn {α : Type} (P : Program) (t : TypeId) (d : Kd α) (ok : α → Prop) : Prop :=
 ∀ {H : Type} {enc : TypeId × Value → H} (w : World) (fuel : Nat) (cs : List Value) (x : DataW H × List MemPlace),
  DataW.trod enc P w 0 (fun _ => true) true fuel t cs = some x → ∃ a, d.K w a cs ∧ ok a
theorem opn_int {P : Program} {t : TypeId} {k : IntKind} (ht : P.underlying t = some (.int k)) : Opn P t (Kd.int k) (fun a => (Lit.int k a).wf = true) := by
 intro H enc w fuel cs x h
 obtain ⟨n, rfl, _, hw⟩ := DataW.trod_int ht h
 exact ⟨n, rfl, hw⟩
theorem add_add_ (a : Addr) (i j : Nat) : (a.add i).add j = a.add (i + j) := by
 unfold Addr.add
 by_cases hi : i = 0
 ·subst hi; simp
 ·by_cases hj : j = 0
  ·subst hj; simp
  ·rw [if_neg hi, if_neg hj, if_neg (by omega)]
   simp; omega
theorem cells_at {w : World} {base : Nat} {a : Addr} {n : Nat} {cs : List Value} (h : w.cells? base a n = some cs) : cs.length = n ∧ ∀ i u, cs[i]? = some u → w.cell? (a.add i) = some u := by
 unfold World.cells? at h
 split at h
 ·have l := mapM_some_length h
  simp only [List.length_range] at l
  refine ⟨l, fun i u hu => ?_⟩
  have hi := (List.getElem?_eq_some_iff.1 hu).1
  have := mapM_some_get h i i (by simp [show i < n by omega])
  rw [this]; exact hu
 ·cases h
theorem choose_list {α : Type} {Q : Nat → α → Prop} (m : Nat) (h : ∀ i, i < m → ∃ v, Q i v) : ∃ l : List α, l.length = m ∧ ∀ i v, l[i]? = some v → Q i v := by
 induction m with
 | zero => exact ⟨[], rfl, fun i v hv => by simp at hv⟩
 | succ m ih =>
  obtain ⟨l, hl, hq⟩ := ih (fun i hi => h i (by omega))
  obtain ⟨v, hv⟩ := h m (by omega)
  refine ⟨l ++ [v], by simp [hl], fun i u hu => ?_⟩
  rcases Nat.lt_trichotomy i m with hi | hi | hi
  ·rw [List.getElem?_append_left (by omega)] at hu
   exact hq i u hu
  ·subst hi
   rw [List.getElem?_append_right (by omega), hl, Nat.sub_self] at hu
   have : v = u := by simpa using hu
   exact this ▸ hv
  ·rw [List.getElem?_eq_none (by simp; omega)] at hu
   cases hu
theorem opn_slice {α : Type} {P : Program} {t e : TypeId} {d : Kd α} {ok : α → Prop} (ht : P.underlying t = some (.slice e)) (hs : P.cellsOf e = d.sz) (ho : Opn P e d ok) :
  Opn P t (Kd.slice e d) (fun l => l.length ≤ maxLen ∧ ∀ x ∈ l, ok x) := by
 intro H enc w fuel cs x h
 rcases DataW.trod_slice ht h with ⟨rfl, _⟩ | ⟨a, len, cap, elems, rest, n, _, rfl, _, _, hl, hm, hlen, hel, _, _⟩
 ·exact ⟨[], ⟨none, 0, rfl, Nat.le_refl _, rfl, Nat.zero_le _, fun h => absurd h (by simp)⟩, by simp, by simp⟩
 ·have each : ∀ i, i < len → ∃ v, ok v ∧ ∃ c, c.length = d.sz ∧ d.K w v c ∧ ∀ j u, c[j]? = some u → w.cell? (a.add (i * d.sz + j)) = some u := by
   intro i hi
   have h1 := hel i hi
   rw [List.getElem?_eq_getElem (by omega)] at h1
   obtain ⟨c, hc, hr⟩ := Option.bind_eq_some_iff.1 h1
   obtain ⟨v, hk, hv⟩ := ho w n c _ hr
   obtain ⟨_, hcell⟩ := cells_at hc
   refine ⟨v, hv, c, d.K_len hk, hk, fun j u hu => ?_⟩
   have := hcell j u hu
   rw [hs, add_add_] at this
   exact this
  obtain ⟨l, hll, hq⟩ := choose_list len each
  subst hll
  have hm' : l.length ≤ maxLen := Nat.le_trans hl hm
  refine ⟨l, ⟨some a, cap, rfl, hl, rfl, by unfold maxLen at hm'; omega, fun _ => ⟨a, rfl, fun j p hp => ?_⟩⟩, hm', fun v hv => ?_⟩
  ·obtain ⟨_, c, h1, h2, h3⟩ := hq j p hp
   exact ⟨c, h1, h2, h3⟩
  ·obtain ⟨i, hi, rfl⟩ := List.getElem_of_mem hv
   exact (hq i _ (List.getElem?_eq_getElem hi)).1
theorem opn_top {α : Type} {H : Type} {enc : TypeId × Value → H} {P : Program} {w : World} {t : TypeId} {d : Kd α} {ok : α → Prop} {v : Value} {x : DataW H} {ps : List MemPlace} (ho : Opn P t d ok)
  (h : DataW.Trod enc P w 0 (fun _ => true) true t v x ps) : ∃ a, d.K w a v.cells.toList ∧ ok a := by
 obtain ⟨fuel, hf⟩ := h
 exact ho w fuel _ _ hf
theorem slice_eq {a b : Option Addr} {l m c q : Nat} (h : (Value.slice a l c).cells.toList = [.slice b m q]) : a = b ∧ l = m ∧ c = q := by
 simpa [Value.cells] using h
abbrev ok5 (a : Int) : Prop := (Lit.int .u8 a).wf = true
abbrev ok67 (l : List Int) : Prop := l.length ≤ maxLen ∧ ∀ x ∈ l, ok5 x
theorem op5 : Opn Try.prog 5 (Kd.int .u8) ok5 := opn_int Try.underlying5
theorem op67 : Opn Try.prog 67 (Kd.slice 5 (Kd.int .u8)) ok67 := opn_slice Try.underlying67 (by kernel_rfl) op5
end Go.Proofs.Ytghfeapncmlihaa.A

namespace Go.Proofs.Ytghfeapncmlihaa.A
open Go.RowKit Go.Proofs.YtghfeapncmlihaaW.PrintWords Go.Proofs.YtghfeapncmlihaaW.PrintLast Go.Proofs.YtghfeapncmlihaaW.PrintMore
set_option linter.unusedVariables false
set_option linter.unusedSimpArgs false
def Ev {α : Type} (F : Nat → Option α) (r : α) : Prop := ∃ K, ∀ k, K ≤ k → F k = some r
theorem Ev.mk {α : Type} {F : Nat → Option α} {r : α} (K : Nat) (h : ∀ k, K < k → F k = some r) : Ev F r := ⟨K + 1, fun k hk => h k hk⟩
theorem Ev.get {α : Type} {F : Nat → Option α} {r : α} (h : Ev F r) : ∃ k, F k = some r := by
 obtain ⟨K, h⟩ := h
 exact ⟨K, h K (Nat.le_refl _)⟩
theorem Ev.const {α : Type} {o : Option α} {r : α} (h : o = some r) : Ev (fun _ => o) r := ⟨0, fun _ _ => h⟩
theorem Ev.ret {α : Type} (r : α) : Ev (fun _ => some r) r := ⟨0, fun _ _ => rfl⟩
theorem Ev.bind {α β : Type} {F : Nat → Option α} {G : Nat → α → Option β} {a : α} {b : β} (h1 : Ev F a) (h2 : Ev (fun k => G k a) b) : Ev (fun k => (F k).bind (G k)) b := by
 obtain ⟨K1, h1⟩ := h1
 obtain ⟨K2, h2⟩ := h2
 refine ⟨max K1 K2, fun k hk => ?_⟩
 show (F k).bind (G k) = some b
 rw [h1 k (by omega)]
 exact h2 k (by omega)
theorem Ev.pos {α : Type} {c : Prop} [Decidable c] {A B : Nat → Option α} {r : α} (h : c) (hA : Ev A r) : Ev (fun k => if c then A k else B k) r := by
 obtain ⟨K, hA⟩ := hA
 exact ⟨K, fun k hk => by show (if c then A k else B k) = some r; rw [if_pos h]; exact hA k hk⟩
theorem Ev.neg {α : Type} {c : Prop} [Decidable c] {A B : Nat → Option α} {r : α} (h : ¬ c) (hB : Ev B r) : Ev (fun k => if c then A k else B k) r := by
 obtain ⟨K, hB⟩ := hB
 exact ⟨K, fun k hk => by show (if c then A k else B k) = some r; rw [if_neg h]; exact hB k hk⟩
theorem Ev.ite {α : Type} {c : Prop} [Decidable c] {A B : Nat → Option α} {a b : α} (hA : c → Ev A a) (hB : ¬ c → Ev B b) : Ev (fun k => if c then A k else B k) (if c then a else b) := by
 by_cases h : c
 ·rw [if_pos h]; exact Ev.pos h (hA h)
 ·rw [if_neg h]; exact Ev.neg h (hB h)
theorem Ev.succ {α : Type} {F : Nat → Option α} {r : α} (h : Ev (fun k => F (k + 1)) r) : Ev F r := by
 obtain ⟨K, h⟩ := h
 refine ⟨K + 1, fun k hk => ?_⟩
 obtain ⟨m, rfl⟩ : ∃ m, k = m + 1 := ⟨k - 1, by omega⟩
 exact h m (by omega)
theorem Ev.of_eq {α : Type} {F G : Nat → Option α} {r : α} (h : Ev F r) (e : ∀ k, G k = F k) : Ev G r := by
 obtain ⟨K, h⟩ := h
 exact ⟨K, fun k hk => (e k).trans (h k hk)⟩
theorem Ev.to {α : Type} {F : Nat → Option α} {r s : α} (h : Ev F r) (e : r = s) : Ev F s := e ▸ h
theorem Ev.uniq {α : Type} {F : Nat → Option α} {r s : α} (h : Ev F r) (g : Ev F s) : r = s := by
 obtain ⟨K1, h⟩ := h
 obtain ⟨K2, g⟩ := g
 exact Option.some.inj ((h (max K1 K2) (by omega)).symm.trans (g (max K1 K2) (by omega)))
theorem getD_gen {α : Type} {l : List α} {i : Nat} (d : α) (h : i < l.length) : l.getD i d = l[i] := by
 rw [List.getD_eq_getElem?_getD, List.getElem?_eq_getElem h]; rfl
theorem wsucc (i : Nat) (h : i < 9223372036854775807) : wrap64 ((i : Int) + 1) = ((i + 1 : Nat) : Int) := by unfold wrap64; omega
theorem wpred (i : Nat) (h : 0 < i) (h2 : i ≤ 9223372036854775807) : wrap64 ((i : Int) - 1) = ((i - 1 : Nat) : Int) := by unfold wrap64; omega
theorem wid (x : Int) (h : -9223372036854775808 ≤ x) (h2 : x ≤ 9223372036854775807) : wrap64 x = x := by unfold wrap64; omega
theorem all_loop {L : Nat → Int → Option Bool} {n : Nat} {P : Nat → Bool} (h : ∀ k i, i < n → L (k + 1) (i : Int) = if P i = true then L k ((i + 1 : Nat) : Int) else some false)
  (he : ∀ k, L (k + 1) (n : Int) = some true) (d : Nat) : ∀ k i, i + d = n → d < k → L k (i : Int) = some ((List.range' i d).all P) := by
 induction d with
 | zero =>
  intro k i hi hk
  obtain ⟨k, rfl⟩ : ∃ m, k = m + 1 := ⟨k - 1, by omega⟩
  obtain rfl : i = n := by omega
  rw [he]; rfl
 | succ d ih =>
  intro k i hi hk
  obtain ⟨k, rfl⟩ : ∃ m, k = m + 1 := ⟨k - 1, by omega⟩
  rw [h k i (by omega), List.range'_succ, List.all_cons]
  by_cases hp : P i = true
  ·rw [if_pos hp, ih k (i + 1) (by omega) (by omega), hp, Bool.true_and]
  ·rw [if_neg hp]
   have : P i = false := by simpa using hp
   rw [this, Bool.false_and]
theorem in_eq (a b c : Int) : spec_l01In.f a b c = some (decide (b ≤ a ∧ a ≤ c)) := by
 unfold spec_l01In.f
 split
 ·congr 1; rw [decide_eq_decide]; omega
 ·congr 1; exact (decide_eq_false (by omega)).symm
def boxS : List S71 → Int → List Int → Option Int
 | [], low, _ => some low
 | b :: bs, low, ps => if b.f0 = low ∧ (1 ≤ b.f1 ∧ b.f1 ≤ 24) ∧ (0 ≤ b.f2 ∧ b.f2 ≤ 999) ∧ ¬ (0 < b.f2 ∧ b.f2 ∈ ps) ∧ low + b.f1 ≤ 24 then boxS bs (low + b.f1) (b.f2 :: ps) else none
def boxesS (h : Int) (bx : List S71) (o : Option Int) : Bool := match o with | none => false | some low => decide (bx ≠ []) && decide (low = h)
theorem boxes_in (h : Int) (fx : List Int) (bx : List S71) (at_ : Int) (i : Nat) (hi : i < bx.length) (hi2 : i ≤ 24) (b : S71) (P : Prop) [Decidable P] (hP : P ↔ (0 < b.f2 ∧ ∃ j, j < i ∧ (bx.getD j z71).f2 = b.f2)) (d : Nat) :
  ∀ (k j : Nat), j + d = i → d < k → (∀ m, m < j → 0 < b.f2 → (bx.getD m z71).f2 ≠ b.f2) → spec_l02Boxes.l1 k at_ (i : Int) (j : Int) h fx bx b.f0 b.f1 b.f2 b.f3 = if P then some false else (if (wrap64 (at_ + b.f1)) > 24 then (some false) else (spec_l02Boxes.l0 (k - d - 1) (wrap64 (at_ + b.f1)) ((i + 1 : Nat) : Int) h fx bx)) := by
 induction d with
 | zero =>
  intro k j hj hk hn
  obtain ⟨k, rfl⟩ : ∃ m, k = m + 1 := ⟨k - 1, by omega⟩
  simp only [spec_l02Boxes.l1]
  have hnp : ¬ P := fun hp => by obtain ⟨h0, m, hm, e⟩ := hP.mp hp; exact hn m (by omega) h0 e
  rw [if_neg (by omega), if_neg hnp, wsucc i (by omega)]
  rfl
 | succ d ih =>
  intro k j hj hk hn
  obtain ⟨k, rfl⟩ : ∃ m, k = m + 1 := ⟨k - 1, by omega⟩
  simp only [spec_l02Boxes.l1]
  have er : rd_T71 bx (j : Int) = bx.getD j z71 := rfl
  rw [if_pos (by omega), er, wsucc j (by omega)]
  by_cases c0 : b.f2 > 0
  ·rw [if_pos c0, if_pos (by omega), if_pos (by omega)]
   by_cases c1 : (bx.getD j z71).f2 = b.f2
   ·rw [if_pos c1, if_pos (hP.mpr ⟨c0, j, by omega, c1⟩)]
   ·rw [if_neg c1, ih k (j + 1) (by omega) (by omega) (fun m hm h0 => by
     by_cases e : m = j
     ·subst e; exact c1
     ·exact hn m (by omega) h0), show k + 1 - (d + 1) - 1 = k - d - 1 by omega]
  ·rw [if_neg c0, ih k (j + 1) (by omega) (by omega) (fun m hm h0 => absurd h0 c0), show k + 1 - (d + 1) - 1 = k - d - 1 by omega]
theorem drop_cons {α : Type} (l : List α) (d : α) (i : Nat) (hi : i < l.length) : l.drop i = l.getD i d :: l.drop (i + 1) := by
 rw [List.drop_eq_getElem_cons hi, getD_gen d hi]
theorem boxes_loop (h : Int) (fx : List Int) (bx : List S71) (hl : bx.length ≤ 140737488351232) : ∀ (d k i : Nat) (at_ : Int) (ps : List Int), (24 - at_).toNat = d → 0 ≤ at_ → at_ ≤ 24 → (i : Int) ≤ at_ → i ≤ bx.length → (d + 2) * 40 < k →
  (∀ x, x ∈ ps ↔ ∃ j, j < i ∧ (bx.getD j z71).f2 = x) → spec_l02Boxes.l0 k at_ (i : Int) h fx bx = some (boxesS h bx (boxS (bx.drop i) at_ ps)) := by
 intro d
 induction d using Nat.strongRecOn with
 | _ d ih =>
 intro k i at_ ps hd h0 h1 hi hil hk hps
 obtain ⟨k, rfl⟩ : ∃ m, k = m + 2 := ⟨k - 2, by omega⟩
 simp only [spec_l02Boxes.l0]
 by_cases c : i < bx.length
 ·have er : rd_T71 bx (i : Int) = bx.getD i z71 := rfl
  rw [if_pos (by omega), if_pos (by omega), drop_cons bx z71 i c, er]
  simp only [in_eq, Option.bind_some, boxS]
  generalize hb : bx.getD i z71 = b
  by_cases c0 : b.f0 = at_
  ·rw [if_pos c0]
   by_cases c1 : 1 ≤ b.f1 ∧ b.f1 ≤ 24
   ·rw [if_pos (decide_eq_true c1)]
    by_cases c2 : 0 ≤ b.f2 ∧ b.f2 ≤ 999
    ·simp only [decide_eq_true c2, spec_l02Boxes.j1, Bool.not_true]
     rw [if_neg (by simp)]
     have hin := boxes_in h fx bx at_ i c (by omega) b (0 < b.f2 ∧ b.f2 ∈ ps) (by rw [hps]) i k 0 (by omega) (by omega) (fun m hm => by omega)
     refine hin.trans ?_
     by_cases c3 : 0 < b.f2 ∧ b.f2 ∈ ps
     ·rw [if_pos c3, if_neg (fun h => h.2.2.2.1 c3)]; rfl
     ·rw [if_neg c3, wid (at_ + b.f1) (by omega) (by omega)]
      by_cases c4 : at_ + b.f1 > 24
      ·rw [if_pos c4, if_neg (fun h => by have := h.2.2.2.2; omega)]; rfl
      ·rw [if_neg c4, if_pos ⟨c0, c1, c2, c3, by omega⟩]
       refine ih (24 - (at_ + b.f1)).toNat (by omega) _ (i + 1) (at_ + b.f1) (b.f2 :: ps) rfl (by omega) (by omega) (by omega) (by omega) (by omega) (fun x => ?_)
       rw [List.mem_cons, hps]
       constructor
       ·rintro (rfl | ⟨j, hj, e⟩)
        ·exact ⟨i, by omega, by rw [hb]⟩
        ·exact ⟨j, by omega, e⟩
       ·rintro ⟨j, hj, e⟩
        by_cases ej : j = i
        ·subst ej; left; rw [← e, hb]
        ·right; exact ⟨j, by omega, e⟩
    ·simp only [decide_eq_false c2, spec_l02Boxes.j1, Bool.not_false]
     rw [if_pos trivial, if_neg (fun h => c2 h.2.2.1)]; rfl
   ·rw [if_neg (by simpa using c1)]
    simp only [spec_l02Boxes.j1]
    rw [if_pos trivial, if_neg (fun h => c1 h.2.1)]; rfl
  ·rw [if_neg c0]
   simp only [spec_l02Boxes.j1]
   rw [if_pos trivial, if_neg (fun h => c0 h.1)]; rfl
 ·rw [if_neg (by omega), List.drop_eq_nil_of_le (by omega)]
  simp only [boxS, boxesS]
  by_cases c0 : (bx.length : Int) > 0
  ·have hne : bx ≠ [] := by intro e; rw [e] at c0; simp at c0
   rw [if_pos c0, decide_eq_true hne, Bool.true_and]
   congr 1
  ·have hne : ¬ bx ≠ [] := by intro e; exact e (List.length_eq_zero_iff.mp (by omega))
   rw [if_neg c0, decide_eq_false hne, Bool.false_and]
theorem boxes_eq (h : Int) (fx : List Int) (bx : List S71) (hl : bx.length ≤ 140737488351232) (k : Nat) (hk : 1100 < k) : spec_l02Boxes.f k h fx bx = some (boxesS h bx (boxS bx 0 [])) := by
 unfold spec_l02Boxes.f
 have := boxes_loop h fx bx hl 24 k 0 0 [] (by omega) (by omega) (by omega) (by omega) (by omega) (by omega) (by simp)
 exact this
theorem boxS_le : ∀ (bs : List S71) (low : Int) (ps : List Int) (e : Int), boxS bs low ps = some e → low ≤ e ∧ (bs.length : Int) ≤ e - low ∧ (low ≤ 24 → e ≤ 24)
 | [], low, ps, e, h => by simp [boxS] at h; subst h; exact ⟨by omega, by simp, id⟩
 | b :: bs, low, ps, e, h => by
  simp only [boxS] at h
  split at h
  ·next hc =>
   obtain ⟨h1, h2, h3⟩ := boxS_le bs _ _ _ h
   exact ⟨by omega, by simp; omega, fun _ => h3 (by omega)⟩
  ·simp at h
theorem boxP_S (h : Int) (hh : h ≤ 24) : ∀ (bs : List S71) (low : Int) (ls ps : List Int) (e : Int) (ls' : List Int), 0 ≤ low → boxP h bs low ls ps = some (e, ls') → boxS bs low ps = some e ∧ ∀ f, f ∈ ls' ↔ f ∈ ls ∨ f ∈ bs.map (fun b => b.f0)
 | [], low, ls, ps, e, ls', h0, hb => by
  simp only [boxP, Option.some.injEq, Prod.mk.injEq] at hb
  obtain ⟨rfl, rfl⟩ := hb
  exact ⟨rfl, fun f => by simp⟩
 | b :: bs, low, ls, ps, e, ls', h0, hb => by
  simp only [boxP] at hb
  split at hb
  ·next hc =>
   obtain ⟨h1, h2⟩ := boxP_S h hh bs _ _ _ _ _ (by omega) hb
   refine ⟨?_, fun f => ?_⟩
   ·simp only [boxS]
    rw [if_pos ⟨hc.1, ⟨hc.2.1.1, by omega⟩, hc.2.2.1, hc.2.2.2, by omega⟩]
    exact h1
   ·rw [h2 f, List.mem_cons, List.map_cons, List.mem_cons]
    constructor
    ·rintro ((h | h) | h)
     ·exact Or.inr (Or.inl h)
     ·exact Or.inl h
     ·exact Or.inr (Or.inr h)
    ·rintro (h | h | h)
     ·exact Or.inl (Or.inr h)
     ·exact Or.inl (Or.inl h)
     ·exact Or.inr h
  ·simp at hb
theorem boxS_P (h : Int) : ∀ (bs : List S71) (low : Int) (ls ps : List Int), boxS bs low ps = some h → ∃ ls', boxP h bs low ls ps = some (h, ls')
 | [], low, ls, ps, hb => by
  simp only [boxS, Option.some.injEq] at hb
  subst hb
  exact ⟨ls, rfl⟩
 | b :: bs, low, ls, ps, hb => by
  simp only [boxS] at hb
  split at hb
  ·next hc =>
   have hle := (boxS_le bs _ _ _ hb).1
   obtain ⟨ls', h1⟩ := boxS_P h bs _ (b.f0 :: ls) _ hb
   refine ⟨ls', ?_⟩
   simp only [boxP]
   rw [if_pos ⟨hc.1, ⟨hc.2.1.1, by omega⟩, hc.2.2.1, hc.2.2.2.1⟩]
   exact h1
  ·simp at hb
theorem colS_eq (h : Int) (fx : List Int) (bx : List S71) : (decide (1 ≤ h ∧ h ≤ 24) && (boxesS h bx (boxS bx 0 []) && (fixP h none fx && fx.all (fun f => decide (f ∈ bx.map (fun b => b.f0)))))) = colP h fx bx := by
 unfold colP
 by_cases hh : 1 ≤ h ∧ h ≤ 24
 ·rw [decide_eq_true hh, Bool.true_and, Bool.true_and]
  cases hP : boxP h bx 0 [] [] with
  | none =>
   have hf : boxesS h bx (boxS bx 0 []) = false := by
    cases hS : boxS bx 0 [] with
    | none => rfl
    | some e =>
     by_cases c : e = h
     ·subst c
      obtain ⟨ls', hl⟩ := boxS_P e bx 0 [] [] hS
      rw [hl] at hP; simp at hP
     ·simp [boxesS, c]
   rw [hf]; simp
  | some z =>
   obtain ⟨e, ls⟩ := z
   obtain ⟨h1, h2⟩ := boxP_S h hh.2 bx 0 [] [] e ls (by omega) hP
   have ha : fx.all (fun f => decide (f ∈ bx.map (fun b => b.f0))) = fx.all (fun f => decide (f ∈ ls)) := by
    congr 1
    funext f
    rw [decide_eq_decide, h2 f]
    simp
   rw [h1, ha]
   simp only [boxesS]
   cases decide (bx ≠ []) <;> cases decide (e = h) <;> cases fixP h none fx <;> cases fx.all (fun f => decide (f ∈ ls)) <;> rfl
 ·rw [decide_eq_false hh, Bool.false_and, Bool.false_and, Bool.false_and, Bool.false_and]
def fixS (h : Int) (L : List Int) : Option Int → List Int → Bool
 | _, [] => true
 | p, f :: fs => decide (1 ≤ f ∧ f ≤ h - 1) && (match p with | none => true | some q => decide (q < f)) && decide (f ∈ L) && fixS h L (some f) fs
theorem fixS_eq (h : Int) (L : List Int) : ∀ (fs : List Int) (p : Option Int), fixS h L p fs = (fixP h p fs && fs.all (fun f => decide (f ∈ L)))
 | [], p => rfl
 | f :: fs, p => by
  simp only [fixS, fixP, List.all_cons]
  rw [fixS_eq h L fs (some f)]
  ac_rfl
theorem drop_step {α : Type} {l : List α} {i : Nat} {b : α} {rest : List α} (d : α) (h : l.drop i = b :: rest) : i < l.length ∧ l.getD i d = b ∧ l.drop (i + 1) = rest := by
 have hi : i < l.length := by
  apply Classical.byContradiction
  intro c
  rw [List.drop_eq_nil_of_le (by omega)] at h
  cases h
 have h2 := drop_cons l d i hi
 rw [h] at h2
 injection h2 with h3 h4
 exact ⟨hi, h3.symm, h4.symm⟩
theorem drop_end {α : Type} {l : List α} {i : Nat} (h : l.drop i = []) (hi : i ≤ l.length) : i = l.length := by
 have := List.drop_eq_nil_iff.mp h
 omega
theorem found_ev (h : Int) (fx : List Int) (bx : List S71) (i : Nat) (hi : i < fx.length) (hi2 : i ≤ 140737488351232) (hl : bx.length ≤ 24) (s : Bool) (hs : Ev (fun k => spec_ColumnOk.l0 k ((i + 1 : Nat) : Int) h fx bx) s) :
  ∀ (rest : List S71) (j : Nat) (b : Bool), bx.drop j = rest → j ≤ bx.length → Ev (fun k => spec_ColumnOk.l1 k (i : Int) b (j : Int) h fx bx) (if (b || rest.any (fun x => decide (x.f0 = fx.getD i 0))) = true then s else false)
 | [], j, b, hd, hj => by
  refine Ev.succ ?_
  simp only [spec_ColumnOk.l1]
  have he := drop_end hd hj
  refine Ev.neg (by omega) ?_
  rw [List.any_nil, Bool.or_false, wsucc i (by omega)]
  exact Ev.ite (fun _ => hs) (fun _ => Ev.ret _)
 | x :: rest, j, b, hd, hj => by
  obtain ⟨h1, h2, h3⟩ := drop_step z71 hd
  refine Ev.succ ?_
  simp only [spec_ColumnOk.l1]
  refine Ev.pos (by omega) ?_
  rw [wsucc j (by omega), List.any_cons]
  cases b with
  | true =>
   refine Ev.pos rfl ?_
   refine (found_ev h fx bx i hi hi2 hl s hs rest (j + 1) true h3 (by omega)).to ?_
   rw [Bool.true_or, Bool.true_or]
  | false =>
   refine Ev.neg (by simp) ?_
   refine Ev.pos (by omega) ?_
   refine Ev.pos (by omega) ?_
   refine Ev.pos (by omega) ?_
   refine (found_ev h fx bx i hi hi2 hl s hs rest (j + 1) _ h3 (by omega)).to ?_
   rw [Bool.false_or]
   have e1 : rd_T71 bx (j : Int) = x := h2
   have e2 : rd fx (i : Int) = fx.getD i 0 := rfl
   rw [e1, e2]
   rfl
theorem prev_eq (fx : List Int) (i : Nat) : prevP fx ((i + 1 : Nat) : Int) = some (fx.getD i 0) := by
 unfold prevP
 rw [if_neg (by omega), show ((i + 1 : Nat) : Int) - 1 = (i : Int) by omega]
 rfl
theorem any_lows (f : Int) (bx : List S71) : (bx.any (fun x => decide (x.f0 = f))) = decide (f ∈ bx.map (fun b => b.f0)) := by
 rw [Bool.eq_iff_iff, List.any_eq_true, decide_eq_true_iff, List.mem_map]
 constructor
 ·rintro ⟨x, hx, e⟩; exact ⟨x, hx, of_decide_eq_true e⟩
 ·rintro ⟨x, hx, e⟩; exact ⟨x, hx, decide_eq_true e⟩
theorem fixed_ev (h : Int) (h0 : 1 ≤ h) (h1 : h ≤ 24) (fx : List Int) (hx : fx.length ≤ 140737488351232) (bx : List S71) (hl : bx.length ≤ 24) :
  ∀ (rest : List Int) (i : Nat), fx.drop i = rest → i ≤ fx.length → Ev (fun k => spec_ColumnOk.l0 k (i : Int) h fx bx) (fixS h (bx.map (fun b => b.f0)) (prevP fx (i : Int)) rest)
 | [], i, hd, hj => by
  refine Ev.succ ?_
  simp only [spec_ColumnOk.l0]
  have he := drop_end hd hj
  refine Ev.neg (by omega) ?_
  exact Ev.ret _
 | f :: rest, i, hd, hj => by
  obtain ⟨h2, h3, h4⟩ := drop_step 0 hd
  have ih := fixed_ev h h0 h1 fx hx bx hl rest (i + 1) h4 (by omega)
  have hf := found_ev h fx bx i h2 (by omega) hl _ ih bx 0 false rfl (by omega)
  rw [Bool.false_or, any_lows, h3, prev_eq, h3] at hf
  have er : rd fx (i : Int) = f := h3
  have go : ∀ (b : Bool), Ev (fun k => spec_ColumnOk.j2 k (i : Int) b h fx bx) (if b = true then false else if decide (f ∈ bx.map (fun b => b.f0)) = true then fixS h (bx.map (fun b => b.f0)) (some f) rest else false) := by
   intro b
   refine Ev.succ ?_
   simp only [spec_ColumnOk.j2]
   exact Ev.ite (fun _ => Ev.ret _) (fun _ => hf)
  refine Ev.succ ?_
  simp only [spec_ColumnOk.l0]
  refine Ev.pos (by omega) ?_
  refine Ev.pos (by omega) ?_
  rw [er, wid (h - 1) (by omega) (by omega)]
  refine Ev.bind (Ev.const (in_eq _ _ _)) ?_
  simp only [fixS]
  by_cases c1 : 1 ≤ f ∧ f ≤ h - 1
  ·refine Ev.pos (decide_eq_true c1) ?_
   rw [decide_eq_true c1, Bool.true_and]
   by_cases c2 : (i : Int) > 0
   ·have hp : prevP fx (i : Int) = some (fx.getD (i - 1) 0) := by
     have := prev_eq fx (i - 1)
     rwa [show i - 1 + 1 = i by omega] at this
    have e2 : rd fx ((i - 1 : Nat) : Int) = fx.getD (i - 1) 0 := rfl
    refine Ev.pos c2 ?_
    rw [wpred i (by omega) (by omega), hp, e2]
    refine Ev.pos (by omega) ?_
    refine Ev.pos (by omega) ?_
    refine (go _).to ?_
    by_cases c3 : f ≤ fx.getD (i - 1) 0
    ·rw [if_pos (decide_eq_true c3)]
     simp only [decide_eq_false (show ¬ fx.getD (i - 1) 0 < f by omega), Bool.false_and]
    ·rw [if_neg (by simpa using c3)]
     simp only [decide_eq_true (show fx.getD (i - 1) 0 < f by omega), Bool.true_and]
     cases decide (f ∈ bx.map (fun b => b.f0)) <;> simp
   ·have hp : prevP fx (i : Int) = none := by unfold prevP; rw [if_pos (by omega)]
    refine Ev.neg c2 ?_
    refine (go _).to ?_
    rw [hp]
    cases decide (f ∈ bx.map (fun b => b.f0)) <;> simp
  ·refine Ev.neg (by simpa using c1) ?_
   refine (go _).to ?_
   rw [if_pos rfl, decide_eq_false c1]
   simp only [Bool.false_and]
theorem colok_ev (h : Int) (fx : List Int) (hx : fx.length ≤ 140737488351232) (bx : List S71) (hl : bx.length ≤ 140737488351232) : Ev (fun k => spec_ColumnOk.f k h fx bx) (colP h fx bx) := by
 refine Ev.of_eq ?_ (fun k => by unfold spec_ColumnOk.f; rfl)
 refine Ev.bind (Ev.const (in_eq _ _ _)) ?_
 rw [← colS_eq, ← fixS_eq]
 by_cases hh : 1 ≤ h ∧ h ≤ 24
 ·refine Ev.pos (decide_eq_true hh) ?_
  refine Ev.bind (Ev.mk 1100 (fun k hk => boxes_eq h fx bx hl k hk)) ?_
  rw [decide_eq_true hh, Bool.true_and]
  refine Ev.succ ?_
  simp only [spec_ColumnOk.j0]
  cases hS : boxS bx 0 [] with
  | none =>
   refine Ev.pos (by simp [boxesS]) ?_
   exact Ev.ret _
  | some e =>
   by_cases hb : boxesS h bx (some e) = true
   ·rw [hb]
    have hle := boxS_le bx 0 [] e hS
    have he : e ≤ 24 := hle.2.2 (by omega)
    refine Ev.neg (by simp) ?_
    exact fixed_ev h hh.1 hh.2 fx hx bx (by omega) fx 0 rfl (by omega)
   ·have hb2 : boxesS h bx (some e) = false := by simpa using hb
    rw [hb2]
    refine Ev.pos (by simp) ?_
    exact Ev.ret _
 ·refine Ev.neg (by simpa using hh) ?_
  rw [decide_eq_false hh, Bool.false_and]
  refine Ev.succ ?_
  simp only [spec_ColumnOk.j0]
  refine Ev.pos (by simp) ?_
  exact Ev.ret _
end Go.Proofs.Ytghfeapncmlihaa.A
