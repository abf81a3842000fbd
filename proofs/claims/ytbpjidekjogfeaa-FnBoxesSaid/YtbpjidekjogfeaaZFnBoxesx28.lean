/- Used by the law FnBoxes. -/
import Derived.Test.YtbpjidekjogfeaaZFnBoxesx16
import Derived.Test.YtbpjidekjogfeaaZFnBoxesx17
import Derived.Test.YtbpjidekjogfeaaZFnBoxesx18
import Derived.Test.YtbpjidekjogfeaaZFnBoxesx19
import Derived.Test.YtbpjidekjogfeaaZFnBoxesx20
import Derived.Test.YtbpjidekjogfeaaZFnBoxesx21
import Derived.Test.YtbpjidekjogfeaaZFnBoxesx25
import Derived.Test.YtbpjidekjogfeaaZFnBoxesx27
import Derived.Test.YtbpjidekjogfeaaZFnBoxesh
namespace Go.Proofs.Ytbpjidekjogfeaa.A
open Go.RowKit Go.Proofs.YtbpjidekjogfeaaW.PrintWords Go.Proofs.YtbpjidekjogfeaaW.PrintLast Go.Proofs.YtbpjidekjogfeaaW.PrintMore
attribute [local go_sem] max2_int min2_int max_two min_two max_three min_three max_four min_four   
theorem bc {w : World} {g : Nat} {t : TypeId} {cs : Array Value} (h : Aside0 (w.heap[g]? = some (.cells cs t (0, 0)))) (i : Nat) {v : Value} (e : cs[i]? = some v := by rfl) : w.cell? ⟨g, i, none⟩ = some v := (blk_cell h.out i).trans e
theorem bo {α β : Type} {o : Option α} {f : α → Option β} {b : β} : o.bind f = some b ↔ ∃ a, o = some a ∧ f a = some b := Option.bind_eq_some_iff
theorem nf {r : Bool} {P : Prop} (H : some false = some r) (h : r = true) : P := absurd (Option.some.inj H) (by rw [h]; decide)
set_option linter.unusedVariables false
set_option linter.unusedSimpArgs false
def laws_FnBoxes.j0 : Nat → Int → Int → Int → Bool → Bool → Int → List Int → List (S98) → Int → List Int → List (S98) → Int → List Int → List (S98) → Option (Bool)
 | 0, _, _, _, _, _, _, _, _, _, _, _, _, _, _ => none
 | k + 1, x4, x5, x7, x8, x55, x820000, x820001, x820002, x830000, x830001, x830002, x840000, x840001, x840002 => if x55 = true then (some false) else (if x8 = true then ((impl_TakeOut.f x840000 x840001 x840002 x4).bind fun bt842 => ((impl_TakeOut.f bt842.1 bt842.2.1 bt842.2.2.1 x4).bind fun bt851 => ((impl_FitOf.f k x820000 x820001 x820002 x5).bind fun bt860 => ((impl_ColumnOk.f x840000 x840001 x840002).bind fun t865 => (if t865 = true then (if bt842.2.2.2 = true then (if bt851.2.2.2 = true then (some false) else ((impl_ColumnOk.f bt842.1 bt842.2.1 bt842.2.2.1).bind fun t866 => (if t866 = true then (if bt860.2.2.2 = true then (if bt860.2.1 = x7 then (if bt860.2.2.1 ≥ x5 then ((spec_GapsOf.f k x840000 x840001 x840002).bind fun t867 => ((laws_room.f k t867).bind fun t870 => ((spec_GapsOf.f k x820000 x820001 x820002).bind fun t871 => ((laws_room.f k t871).bind fun t874 => (if t870 = (wrap64 (t874 - x5)) then ((spec_GapsOf.f k bt842.1 bt842.2.1 bt842.2.2.1).bind fun t875 => ((laws_room.f k t875).bind fun t878 => ((spec_GapsOf.f k x820000 x820001 x820002).bind fun t879 => ((laws_room.f k t879).bind fun t882 => (some (t878 == t882)))))) else (some false)))))) else (some false)) else (some false)) else (some false)) else (some false)))) else (some false)) else (some false)))))) else ((laws_sameColumn.f k x830000 x830001 x830002 x820000 x820001 x820002).bind fun t841 => (if t841 = true then (some (x7 == (-1))) else (some false))))
def laws_FnBoxes.f (k : Nat) (l0 : List Int) : Option (Bool) := (laws_big.f l0).bind fun t809 => (if t809 = true then (some true) else ((spec_DrawPutIn.f k l0).bind fun bt810 => ((impl_PutIn.f k bt810.1 bt810.2.1 bt810.2.2.1 bt810.2.2.2.1 bt810.2.2.2.2).bind fun bt820 => ((spec_PutIn.f k bt810.1 bt810.2.1 bt810.2.2.1 bt810.2.2.2.1 bt810.2.2.2.2).bind fun bt830 => (if (bt820.2.2.2.2 != bt830.2.2.2.2) = true then (laws_FnBoxes.j0 k bt810.2.2.2.1 bt810.2.2.2.2 bt820.2.2.2.1 bt820.2.2.2.2 true bt810.1 bt810.2.1 bt810.2.2.1 bt820.1 bt820.2.1 bt820.2.2.1 bt830.1 bt830.2.1 bt830.2.2.1) else (if bt820.2.2.2.1 = bt830.2.2.2.1 then ((laws_sameColumn.f k bt820.1 bt820.2.1 bt820.2.2.1 bt830.1 bt830.2.1 bt830.2.2.1).bind fun t840 => (laws_FnBoxes.j0 k bt810.2.2.2.1 bt810.2.2.2.2 bt820.2.2.2.1 bt820.2.2.2.2 (!t840) bt810.1 bt810.2.1 bt810.2.2.1 bt820.1 bt820.2.1 bt820.2.2.1 bt830.1 bt830.2.1 bt830.2.2.1)) else (laws_FnBoxes.j0 k bt810.2.2.2.1 bt810.2.2.2.2 bt820.2.2.2.1 bt820.2.2.2.2 true bt810.1 bt810.2.1 bt810.2.2.1 bt820.1 bt820.2.1 bt820.2.2.1 bt830.1 bt830.2.1 bt830.2.2.1)))))))
def laws_FnBoxes.T13 : Bool × List (List Nat × List Nat) := (true, [([], []), ([0], [0]), ([1, 1], [1]), ([2], [2]), ([2, 3], [2, 3]), ([4, 2], [4]), ([5], [5]), ([6, 5], [5, 6]), ([5, 7], [5, 7]), ([8, 5], [8]), ([9], [9]), ([10, 9, 9], [9, 10]), ([9, 11], [9, 11]), ([12, 11], [12]), ([13], [13]), ([13, 14], [13, 14]), ([15, 13], [15]), ([16], [16]), ([17, 16], [16, 17]), ([16], [16]), ([18, 19, 16], [16, 18, 19]), ([16, 20], [16, 20]), ([21, 16], [21]), ([22], [22]), ([23, 22], [22, 23]), ([22], [22]), ([24, 25, 22], [22, 24, 25]), ([22, 26], [22, 26]), ([27, 22], [27]), ([28], [28]), ([29, 28, 28], [28, 29]), ([30, 30, 28], [28, 30]), ([28], [28]), ([32, 31, 28], [28, 32]), ([33, 33, 28], [28, 33]), ([28], [28]), ([34, 35, 28], [28, 34, 35]), ([31, 36, 28], [28, 31, 36]), ([28, 37], [28, 37]), ([38, 34], [38]), ([39], [39]), ([40, 39, 39], [39, 40]), ([41, 41, 39], [39, 41]), ([39], [39]), ([43, 42, 39], [39, 43]), ([44, 44, 39], [39, 44]), ([42, 45, 39], [39, 42, 45]), ([39, 46], [39, 46]), ([47, 45, 0, 1, 2, 3, 4, 5, 6, 7, 8, 9, 10, 11, 12, 13, 14, 15, 16, 17, 18, 19, 20, 21, 22, 23, 24, 25, 26, 27, 28, 29, 30, 31, 32, 33, 34, 35, 36, 37, 38, 39, 40, 41, 42, 43, 44, 45, 46, 47], [47])])
def laws_FnBoxes.B13 : List Nat := [0, 1, 3, 7, 15, 31, 63, 127, 255, 511, 1023, 2047, 4095, 8191, 16383, 32767, 65535, 131071, 262143, 131071, 1048575, 2097151, 4194303, 8388607, 16777215, 8388607, 67108863, 134217727, 268435455, 536870911, 1073741823, 2147483647, 536870911, 8589934591, 17179869183, 536870911, 68719476735, 137438953471, 274877906943, 549755813887, 1099511627775, 2199023255551, 4398046511103, 1099511627775, 17592186044415, 35184372088831, 70368744177663, 140737488355327, 281474976710655]
theorem laws_FnBoxes.tab13 : rtab .any (opsOf Try.f5 13) = laws_FnBoxes.T13 := by kernel_rfl
theorem laws_FnBoxes.bits13 : waitsOk laws_FnBoxes.T13.2 laws_FnBoxes.B13 = true := by kernel_rfl
set_option maxHeartbeats 8000000 in
set_option maxRecDepth 100000 in
theorem laws_FnBoxes.calls (k : Nat) (A0 : Option Addr) (c0 : Nat) (l0 : List Int) (r : Bool) (w : World) (hr0 : Kd.C (Kd.int .u8) w A0 l0.length l0) (hc0 : l0.length ≤ c0) (hr_ : Aside0 (r = true)) (h : laws_FnBoxes.f k l0 = some r) :
  Calls Try.prog 5 #[.slice A0 l0.length c0] w fun e w' => e = .returned (.bool r) ∧ Below w.heap.size w w' := by
 have hu41 := Try.underlying41
 have hu50 := Try.underlying50
 have HR0 := Aside0.mk hr0
 have HC0 := Aside0.mk hc0
 clear hr0 hc0
 have HB := Aside0.mk (Below.refl w.heap.size w)
 have H : ((laws_big.f l0).bind fun t809 => (if t809 = true then (some true) else ((spec_DrawPutIn.f k l0).bind fun bt810 => ((impl_PutIn.f k bt810.1 bt810.2.1 bt810.2.2.1 bt810.2.2.2.1 bt810.2.2.2.2).bind fun bt820 => ((spec_PutIn.f k bt810.1 bt810.2.1 bt810.2.2.1 bt810.2.2.2.1 bt810.2.2.2.2).bind fun bt830 => (if (bt820.2.2.2.2 != bt830.2.2.2.2) = true then (laws_FnBoxes.j0 k bt810.2.2.2.1 bt810.2.2.2.2 bt820.2.2.2.1 bt820.2.2.2.2 true bt810.1 bt810.2.1 bt810.2.2.1 bt820.1 bt820.2.1 bt820.2.2.1 bt830.1 bt830.2.1 bt830.2.2.1) else (if bt820.2.2.2.1 = bt830.2.2.2.1 then ((laws_sameColumn.f k bt820.1 bt820.2.1 bt820.2.2.1 bt830.1 bt830.2.1 bt830.2.2.1).bind fun t840 => (laws_FnBoxes.j0 k bt810.2.2.2.1 bt810.2.2.2.2 bt820.2.2.2.1 bt820.2.2.2.2 (!t840) bt810.1 bt810.2.1 bt810.2.2.1 bt820.1 bt820.2.1 bt820.2.2.1 bt830.1 bt830.2.1 bt830.2.2.1)) else (laws_FnBoxes.j0 k bt810.2.2.2.1 bt810.2.2.2.2 bt820.2.2.2.1 bt820.2.2.2.2 true bt810.1 bt810.2.1 bt810.2.2.1 bt820.1 bt820.2.1 bt820.2.2.1 bt830.1 bt830.2.1 bt830.2.2.1)))))))) = some r := h
 clear h
 replace H := bo.mp H
 obtain ⟨t809, A20, H⟩ := H
 try dsimp only at H
 have A2 := Aside0.mk A20
 clear A20
 by_cases c3 : t809 = true
 ·subst c3
  rw [if_pos rfl] at H
  obtain rfl := Option.some.inj H
  go_enter Try.func5, Try.ntmps5
  go_wp2_with (first | ((with_reducible refine gate_callee (f := 27) rfl ?_); refine goesL_ (some 19) rfl rfl Try.func27 (by kernel_rfl) rfl #[.slice A0 l0.length c0] rfl mapd ?_; (with_reducible refine (laws_big.calls _ _ l0 true _ ?side1 ?side2 A2.out).mono ?_); (case side1 => repeat (first | exact HR0.out | (with_reducible refine Kd.C_alloc ?_ _) | (with_reducible refine Kd.C_drewN ?_ _) | (with_reducible refine Kd.C_drew ?_))); (case side2 => exact HC0.out); rintro e w' ⟨rfl, ⟨nd, rfl⟩⟩; refine ⟨_, rfl, ?_⟩))
  go_ret
  exact ⟨by first | rfl | (simp [errW_none, errW_some] <;> rfl) | (simp [*, errW_none, errW_some] <;> rfl), bl HB.out⟩
 ·replace c3 := Bool.eq_false_iff.mpr c3
  subst c3
  rw [if_neg (show ¬ (false = true) by decide)] at H
  replace H := bo.mp H
  obtain ⟨⟨t810, t811, t814, t817, t818⟩, A40, H⟩ := H
  try dsimp only at H
  have A4 := Aside0.mk A40
  clear A40
  replace H := bo.mp H
  obtain ⟨⟨t820, t821, t824, t827, t828⟩, A50, H⟩ := H
  try dsimp only at H
  have A5 := Aside0.mk A50
  clear A50
  replace H := bo.mp H
  obtain ⟨⟨t830, t831, t834, t837, t838⟩, A60, H⟩ := H
  try dsimp only at H
  have A6 := Aside0.mk A60
  clear A60
  have HC7 := Aside0.mk H
  clear H
  go_enter Try.func5, Try.ntmps5
  go_upto_region 6 with (first | ((with_reducible refine gate_callee (f := 27) rfl ?_); refine goesL_ (some 19) rfl rfl Try.func27 (by kernel_rfl) rfl #[.slice A0 l0.length c0] rfl mapd ?_; (with_reducible refine (laws_big.calls _ _ l0 false _ ?side1 ?side2 A2.out).mono ?_); (case side1 => repeat (first | exact HR0.out | (with_reducible refine Kd.C_alloc ?_ _) | (with_reducible refine Kd.C_drewN ?_ _) | (with_reducible refine Kd.C_drew ?_))); (case side2 => exact HC0.out); rintro e w' ⟨rfl, ⟨nd, rfl⟩⟩; refine ⟨_, rfl, ?_⟩) | ((with_reducible refine gate_callee (f := 28) rfl ?_); refine goesL_ (some 22) rfl rfl Try.func28 (by kernel_rfl) rfl #[.slice A0 l0.length c0] rfl mapd ?_; (with_reducible refine (spec_DrawPutIn.calls k _ _ l0 t810 t811 t814 t817 t818 _ ?side1 ?side2 A4.out).mono ?_); (case side1 => repeat (first | exact HR0.out | (with_reducible refine Kd.C_alloc ?_ _) | (with_reducible refine Kd.C_drewN ?_ _) | (with_reducible refine Kd.C_drew ?_))); (case side2 => exact HC0.out); rintro e w8 ⟨v812, v815, rfl, ho0, ho1, hb⟩; refine ⟨_, rfl, ?_⟩; have HO813 := Aside0.mk (Kd.R_lower ho0 (below_size (bl HB.out))); have HO816 := Aside0.mk (Kd.R_lower ho1 (below_size (bl HB.out))); replace HB := Aside0.mk (below_step (bl HB.out) hb); (try clear hb); (try clear hb2); (try clear hk); (try clear hi); (try clear ho0); (try clear ho1)) | ((with_reducible refine gate_dst (N := 3) rfl ?_); refine bx (cs := #[.int .i64 0, .slice none 0 0, .slice none 0 0]) (t := 41) fun gb819 hg w9 hbox hb => ?_; replace HO813 := Aside0.mk (Kd.R_below (rk HO813.out) hb); replace HO816 := Aside0.mk (Kd.R_below (rk HO816.out) hb); have BK819 := Aside0.mk (hbox); have GW819 := Aside0.mk (gs HB.out hg); have GE819 := Aside0.mk (gs HB.out hg); replace HB := Aside0.mk (below_step (bl HB.out) hb); clear hb hbox hg; obtain ⟨hcz10_0, hcz10_1, hcz10_2, hfz10_0, hfz10_1, hfz10_2⟩ := cz3 BK819.out; obtain ⟨Ao11, co11, eo11⟩ := Kd.R_slice HO813.out; subst eo11; obtain ⟨Ao12, co12, eo12⟩ := Kd.R_slice HO816.out; subst eo12) | ((with_reducible refine gate_callee (f := 29) rfl ?_); refine goesL_ (some 30) rfl rfl Try.func29 (by kernel_rfl) rfl #[.agg #[.int .i64 t810, .slice Ao11 t811.length co11, .slice Ao12 t814.length co12], .int .i64 t817, .int .i64 t818] rfl mapd ?_; (with_reducible refine (impl_PutIn.calls k t810 _ _ t811 _ _ t814 t817 t818 t820 t821 t824 t827 t828 _ ?side1 ?side2 ?side3 ?side4 A5.out).mono ?_); (case side1 => refine (Kd.R_reads' (e := 3) (base := w.heap.size) (ok := fun k_ => True) (n := t811.length) (c := co11) ?_).2.2; exact (by refine rk ?_; exact (Kd.R_mono (Kd.R_far (p := ⟨gb819, 2, none⟩) (Kd.R_far (p := ⟨gb819, 1, none⟩) (Kd.R_far (p := ⟨gb819, 0, none⟩) (Kd.R_types HO813.out BK819.out (by decide)) (fun _ hk => hk.2) (.int .i64 t810)) (fun _ hk => hk.2) (.slice Ao11 t811.length co11)) (fun _ hk => hk.2) (.slice Ao12 t814.length co12)) (fun _ h_ => h_.1)))); (case side2 => exact (Kd.R_reads' HO813.out).2.1); (case side3 => refine (Kd.R_reads' (e := 98) (base := w.heap.size) (ok := fun k_ => True) (n := t814.length) (c := co12) ?_).2.2; exact (by refine rk ?_; exact (Kd.R_mono (Kd.R_far (p := ⟨gb819, 2, none⟩) (Kd.R_far (p := ⟨gb819, 1, none⟩) (Kd.R_far (p := ⟨gb819, 0, none⟩) (Kd.R_types HO816.out BK819.out (by decide)) (fun _ hk => hk.2) (.int .i64 t810)) (fun _ hk => hk.2) (.slice Ao11 t811.length co11)) (fun _ hk => hk.2) (.slice Ao12 t814.length co12)) (fun _ h_ => h_.1)))); (case side4 => exact (Kd.R_reads' HO816.out).2.1); rintro e w13 ⟨v822, v825, rfl, ho0, ho1, hb⟩; refine ⟨_, rfl, ?_⟩; have HO823 := Aside0.mk (Kd.R_lower (Kd.R_new' ho0 (Kd.R_lt (by refine rk ?_; exact (Kd.R_mono (Kd.R_far (p := ⟨gb819, 2, none⟩) (Kd.R_far (p := ⟨gb819, 1, none⟩) (Kd.R_far (p := ⟨gb819, 0, none⟩) (Kd.R_types HO813.out BK819.out (by decide)) (fun _ hk => hk.2) (.int .i64 t810)) (fun _ hk => hk.2) (.slice Ao11 t811.length co11)) (fun _ hk => hk.2) (.slice Ao12 t814.length co12)) (fun _ h_ => h_.1))))) (below_size (bl HB.out))); replace HO813 := Aside0.mk (Kd.R_elder' (by refine rk ?_; exact (Kd.R_mono (Kd.R_far (p := ⟨gb819, 2, none⟩) (Kd.R_far (p := ⟨gb819, 1, none⟩) (Kd.R_far (p := ⟨gb819, 0, none⟩) (Kd.R_types HO813.out BK819.out (by decide)) (fun _ hk => hk.2) (.int .i64 t810)) (fun _ hk => hk.2) (.slice Ao11 t811.length co11)) (fun _ hk => hk.2) (.slice Ao12 t814.length co12)) (fun _ h_ => h_.1))) (Kd.R_base ho0) hb); have HO826 := Aside0.mk (Kd.R_lower (Kd.R_new' ho1 (Kd.R_lt (by refine rk ?_; exact (Kd.R_mono (Kd.R_far (p := ⟨gb819, 2, none⟩) (Kd.R_far (p := ⟨gb819, 1, none⟩) (Kd.R_far (p := ⟨gb819, 0, none⟩) (Kd.R_types HO816.out BK819.out (by decide)) (fun _ hk => hk.2) (.int .i64 t810)) (fun _ hk => hk.2) (.slice Ao11 t811.length co11)) (fun _ hk => hk.2) (.slice Ao12 t814.length co12)) (fun _ h_ => h_.1))))) (below_size (bl HB.out))); replace HO816 := Aside0.mk (Kd.R_elder' (by refine rk ?_; exact (Kd.R_mono (Kd.R_far (p := ⟨gb819, 2, none⟩) (Kd.R_far (p := ⟨gb819, 1, none⟩) (Kd.R_far (p := ⟨gb819, 0, none⟩) (Kd.R_types HO816.out BK819.out (by decide)) (fun _ hk => hk.2) (.int .i64 t810)) (fun _ hk => hk.2) (.slice Ao11 t811.length co11)) (fun _ hk => hk.2) (.slice Ao12 t814.length co12)) (fun _ h_ => h_.1))) (Kd.R_base ho1) hb); replace BK819 := Aside0.mk (blk_below (g := gb819) (o := .cells #[.int .i64 t810, .slice Ao11 t811.length co11, .slice Ao12 t814.length co12] 41 (0, 0)) (by refine bk ?_; refine blk_put (cs := #[.int .i64 t810, .slice Ao11 t811.length co11, .slice none 0 0]) ?_ 2 _ rfl; refine bk ?_; refine blk_put (cs := #[.int .i64 t810, .slice none 0 0, .slice none 0 0]) ?_ 1 _ rfl; refine bk ?_; refine blk_put (cs := #[.int .i64 0, .slice none 0 0, .slice none 0 0]) ?_ 0 _ rfl; refine bk ?_; exact BK819.out) hb); replace HB := Aside0.mk (below_step (bl HB.out) hb); (try clear hb); (try clear hb2); (try clear hk); (try clear hi); (try clear ho0); (try clear ho1)) | ((with_reducible refine gate_dst (N := 6) rfl ?_); refine bx (cs := #[.int .i64 0, .slice none 0 0, .slice none 0 0]) (t := 41) fun gb829 hg w14 hbox hb => ?_; replace HO813 := Aside0.mk (Kd.R_below (rk HO813.out) hb); replace HO816 := Aside0.mk (Kd.R_below (rk HO816.out) hb); replace HO823 := Aside0.mk (Kd.R_below (rk HO823.out) hb); replace HO826 := Aside0.mk (Kd.R_below (rk HO826.out) hb); have BK829 := Aside0.mk (hbox); have GW829 := Aside0.mk (gs HB.out hg); have GE829 := Aside0.mk (gs HB.out hg); replace HB := Aside0.mk (below_step (bl HB.out) hb); have NB819_829 := Aside0.mk ((nl BK819.out hg)); have NB829_819 := Aside0.mk ((ng BK819.out hg)); replace BK819 := Aside0.mk (bb BK819.out hb); clear hb hbox hg; have hnb15 := NB829_819.out; have hnc15 := NB819_829.out; obtain ⟨hcz16_0, hcz16_1, hcz16_2, hfz16_0, hfz16_1, hfz16_2⟩ := cz3 BK829.out; obtain ⟨Ao17, co17, eo17⟩ := Kd.R_slice HO823.out; subst eo17; obtain ⟨Ao18, co18, eo18⟩ := Kd.R_slice HO826.out; subst eo18; obtain ⟨hcz19_0, hcz19_1, hcz19_2, hfz19_0, hfz19_1, hfz19_2⟩ := cz3 BK819.out) | ((with_reducible refine gate_callee (f := 30) rfl ?_); refine goesL_ (some 38) rfl rfl Try.func30 (by kernel_rfl) rfl #[.agg #[.int .i64 t810, .slice Ao11 t811.length co11, .slice Ao12 t814.length co12], .int .i64 t817, .int .i64 t818] rfl mapd ?_; (with_reducible refine (spec_PutIn.calls k t810 _ _ t811 _ _ t814 t817 t818 t830 t831 t834 t837 t838 _ ?side1 ?side2 ?side3 ?side4 A6.out).mono ?_); (case side1 => refine (Kd.R_reads' (e := 3) (base := w.heap.size) (ok := fun k_ => (True ∧ some k_ ≠ (.slice Ao17 t821.length co17 : Value).ownBlock)) (n := t811.length) (c := co11) ?_).2.2; exact (by refine rk ?_; exact (Kd.R_mono (Kd.R_far (p := ⟨gb829, 2, none⟩) (Kd.R_far (p := ⟨gb829, 1, none⟩) (Kd.R_far (p := ⟨gb829, 0, none⟩) (Kd.R_types HO813.out BK829.out (by decide)) (fun _ hk => hk.2) (.int .i64 t820)) (fun _ hk => hk.2) (.slice Ao17 t821.length co17)) (fun _ hk => hk.2) (.slice Ao18 t824.length co18)) (fun _ h_ => h_.1)))); (case side2 => exact (Kd.R_reads' HO813.out).2.1); (case side3 => refine (Kd.R_reads' (e := 98) (base := w.heap.size) (ok := fun k_ => (True ∧ some k_ ≠ (.slice Ao18 t824.length co18 : Value).ownBlock)) (n := t814.length) (c := co12) ?_).2.2; exact (by refine rk ?_; exact (Kd.R_mono (Kd.R_far (p := ⟨gb829, 2, none⟩) (Kd.R_far (p := ⟨gb829, 1, none⟩) (Kd.R_far (p := ⟨gb829, 0, none⟩) (Kd.R_types HO816.out BK829.out (by decide)) (fun _ hk => hk.2) (.int .i64 t820)) (fun _ hk => hk.2) (.slice Ao17 t821.length co17)) (fun _ hk => hk.2) (.slice Ao18 t824.length co18)) (fun _ h_ => h_.1)))); (case side4 => exact (Kd.R_reads' HO816.out).2.1); rintro e w20 ⟨v832, v835, rfl, ho0, ho1, hb⟩; refine ⟨_, rfl, ?_⟩; have HO833 := Aside0.mk (Kd.R_lower (Kd.R_new' (Kd.R_new' ho0 (Kd.R_lt (by refine rk ?_; exact (Kd.R_mono (Kd.R_far (p := ⟨gb829, 2, none⟩) (Kd.R_far (p := ⟨gb829, 1, none⟩) (Kd.R_far (p := ⟨gb829, 0, none⟩) (Kd.R_types HO813.out BK829.out (by decide)) (fun _ hk => hk.2) (.int .i64 t820)) (fun _ hk => hk.2) (.slice Ao17 t821.length co17)) (fun _ hk => hk.2) (.slice Ao18 t824.length co18)) (fun _ h_ => h_.1))))) (Kd.R_lt (by refine rk ?_; exact (Kd.R_mono (Kd.R_far (p := ⟨gb829, 2, none⟩) (Kd.R_far (p := ⟨gb829, 1, none⟩) (Kd.R_far (p := ⟨gb829, 0, none⟩) (Kd.R_types HO823.out BK829.out (by decide)) (fun _ hk => hk.2) (.int .i64 t820)) (fun _ hk => hk.2) (.slice Ao17 t821.length co17)) (fun _ hk => hk.2) (.slice Ao18 t824.length co18)) (fun _ h_ => h_.1))))) (below_size (bl HB.out))); replace HO813 := Aside0.mk (Kd.R_elder' (by refine rk ?_; exact (Kd.R_mono (Kd.R_far (p := ⟨gb829, 2, none⟩) (Kd.R_far (p := ⟨gb829, 1, none⟩) (Kd.R_far (p := ⟨gb829, 0, none⟩) (Kd.R_types HO813.out BK829.out (by decide)) (fun _ hk => hk.2) (.int .i64 t820)) (fun _ hk => hk.2) (.slice Ao17 t821.length co17)) (fun _ hk => hk.2) (.slice Ao18 t824.length co18)) (fun _ h_ => h_.1))) (Kd.R_base ho0) hb); replace HO823 := Aside0.mk (Kd.R_elder' (by refine rk ?_; exact (Kd.R_mono (Kd.R_far (p := ⟨gb829, 2, none⟩) (Kd.R_far (p := ⟨gb829, 1, none⟩) (Kd.R_far (p := ⟨gb829, 0, none⟩) (Kd.R_types HO823.out BK829.out (by decide)) (fun _ hk => hk.2) (.int .i64 t820)) (fun _ hk => hk.2) (.slice Ao17 t821.length co17)) (fun _ hk => hk.2) (.slice Ao18 t824.length co18)) (fun _ h_ => h_.1))) (Kd.R_base ho0) hb); have HO836 := Aside0.mk (Kd.R_lower (Kd.R_new' (Kd.R_new' ho1 (Kd.R_lt (by refine rk ?_; exact (Kd.R_mono (Kd.R_far (p := ⟨gb829, 2, none⟩) (Kd.R_far (p := ⟨gb829, 1, none⟩) (Kd.R_far (p := ⟨gb829, 0, none⟩) (Kd.R_types HO816.out BK829.out (by decide)) (fun _ hk => hk.2) (.int .i64 t820)) (fun _ hk => hk.2) (.slice Ao17 t821.length co17)) (fun _ hk => hk.2) (.slice Ao18 t824.length co18)) (fun _ h_ => h_.1))))) (Kd.R_lt (by refine rk ?_; exact (Kd.R_mono (Kd.R_far (p := ⟨gb829, 2, none⟩) (Kd.R_far (p := ⟨gb829, 1, none⟩) (Kd.R_far (p := ⟨gb829, 0, none⟩) (Kd.R_types HO826.out BK829.out (by decide)) (fun _ hk => hk.2) (.int .i64 t820)) (fun _ hk => hk.2) (.slice Ao17 t821.length co17)) (fun _ hk => hk.2) (.slice Ao18 t824.length co18)) (fun _ h_ => h_.1))))) (below_size (bl HB.out))); replace HO816 := Aside0.mk (Kd.R_elder' (by refine rk ?_; exact (Kd.R_mono (Kd.R_far (p := ⟨gb829, 2, none⟩) (Kd.R_far (p := ⟨gb829, 1, none⟩) (Kd.R_far (p := ⟨gb829, 0, none⟩) (Kd.R_types HO816.out BK829.out (by decide)) (fun _ hk => hk.2) (.int .i64 t820)) (fun _ hk => hk.2) (.slice Ao17 t821.length co17)) (fun _ hk => hk.2) (.slice Ao18 t824.length co18)) (fun _ h_ => h_.1))) (Kd.R_base ho1) hb); replace HO826 := Aside0.mk (Kd.R_elder' (by refine rk ?_; exact (Kd.R_mono (Kd.R_far (p := ⟨gb829, 2, none⟩) (Kd.R_far (p := ⟨gb829, 1, none⟩) (Kd.R_far (p := ⟨gb829, 0, none⟩) (Kd.R_types HO826.out BK829.out (by decide)) (fun _ hk => hk.2) (.int .i64 t820)) (fun _ hk => hk.2) (.slice Ao17 t821.length co17)) (fun _ hk => hk.2) (.slice Ao18 t824.length co18)) (fun _ h_ => h_.1))) (Kd.R_base ho1) hb); replace BK819 := Aside0.mk (blk_below (g := gb819) (o := .cells #[.int .i64 t810, .slice Ao11 t811.length co11, .slice Ao12 t814.length co12] 41 (0, 0)) (bf BK819.out) hb); replace BK829 := Aside0.mk (blk_below (g := gb829) (o := .cells #[.int .i64 t820, .slice Ao17 t821.length co17, .slice Ao18 t824.length co18] 41 (0, 0)) (by refine bk ?_; refine blk_put (cs := #[.int .i64 t820, .slice Ao17 t821.length co17, .slice none 0 0]) ?_ 2 _ rfl; refine bk ?_; refine blk_put (cs := #[.int .i64 t820, .slice none 0 0, .slice none 0 0]) ?_ 1 _ rfl; refine bk ?_; refine blk_put (cs := #[.int .i64 0, .slice none 0 0, .slice none 0 0]) ?_ 0 _ rfl; refine bk ?_; exact BK829.out) hb); replace HB := Aside0.mk (below_step (bl HB.out) hb); (try clear hb); (try clear hb2); (try clear hk); (try clear hi); (try clear ho0); (try clear ho1)) | ((with_reducible refine gate_dst (N := 9) rfl ?_); refine bx (cs := #[.int .i64 0, .slice none 0 0, .slice none 0 0]) (t := 41) fun gb839 hg w21 hbox hb => ?_; replace HO813 := Aside0.mk (Kd.R_below (rk HO813.out) hb); replace HO816 := Aside0.mk (Kd.R_below (rk HO816.out) hb); replace HO823 := Aside0.mk (Kd.R_below (rk HO823.out) hb); replace HO826 := Aside0.mk (Kd.R_below (rk HO826.out) hb); replace HO833 := Aside0.mk (Kd.R_below (rk HO833.out) hb); replace HO836 := Aside0.mk (Kd.R_below (rk HO836.out) hb); have BK839 := Aside0.mk (hbox); have GW839 := Aside0.mk (gs HB.out hg); have GE839 := Aside0.mk (gs HB.out hg); replace HB := Aside0.mk (below_step (bl HB.out) hb); have NB819_839 := Aside0.mk ((nl BK819.out hg)); have NB839_819 := Aside0.mk ((ng BK819.out hg)); replace BK819 := Aside0.mk (bb BK819.out hb); have NB829_839 := Aside0.mk ((nl BK829.out hg)); have NB839_829 := Aside0.mk ((ng BK829.out hg)); replace BK829 := Aside0.mk (bb BK829.out hb); clear hb hbox hg; have hnb22 := NB839_819.out; have hnc22 := NB819_839.out; have hnb23 := NB839_829.out; have hnc23 := NB829_839.out; obtain ⟨hcz24_0, hcz24_1, hcz24_2, hfz24_0, hfz24_1, hfz24_2⟩ := cz3 BK839.out; obtain ⟨Ao25, co25, eo25⟩ := Kd.R_slice HO833.out; subst eo25; obtain ⟨Ao26, co26, eo26⟩ := Kd.R_slice HO836.out; subst eo26))
  (try simp only [Act.put, List.setIfInBounds_toArray, List.set_cons_zero, List.set_cons_succ])
  go_cut [55] (fun v55 wc => ∃ (kq : Nat) (x55_6 : Bool), v55 = .bool x55_6 ∧ Aside0 (laws_FnBoxes.j0 kq t817 t818 t827 t828 x55_6 t810 t811 t814 t820 t821 t824 t830 t831 t834 = some r) ∧ Aside0 (kq ≤ k) ∧ Aside0 (Kd.R (Kd.int .i64) 3 wc w.heap.size (fun k_ => some k_ ≠ ((.slice Ao17 t821.length co17) : Value).ownBlock ∧ some k_ ≠ ((.slice Ao25 t831.length co25) : Value).ownBlock) (.slice Ao11 t811.length co11) t811) ∧ Aside0 (Kd.R k98 98 wc w.heap.size (fun k_ => some k_ ≠ ((.slice Ao18 t824.length co18) : Value).ownBlock ∧ some k_ ≠ ((.slice Ao26 t834.length co26) : Value).ownBlock) (.slice Ao12 t814.length co12) t814) ∧ Aside0 (Kd.R (Kd.int .i64) 3 wc w.heap.size (fun k_ => some k_ ≠ ((.slice Ao11 t811.length co11) : Value).ownBlock ∧ some k_ ≠ ((.slice Ao25 t831.length co25) : Value).ownBlock) (.slice Ao17 t821.length co17) t821) ∧ Aside0 (Kd.R k98 98 wc w.heap.size (fun k_ => some k_ ≠ ((.slice Ao12 t814.length co12) : Value).ownBlock ∧ some k_ ≠ ((.slice Ao26 t834.length co26) : Value).ownBlock) (.slice Ao18 t824.length co18) t824) ∧ Aside0 (Kd.R (Kd.int .i64) 3 wc w.heap.size (fun k_ => some k_ ≠ ((.slice Ao11 t811.length co11) : Value).ownBlock ∧ some k_ ≠ ((.slice Ao17 t821.length co17) : Value).ownBlock) (.slice Ao25 t831.length co25) t831) ∧ Aside0 (Kd.R k98 98 wc w.heap.size (fun k_ => some k_ ≠ ((.slice Ao12 t814.length co12) : Value).ownBlock ∧ some k_ ≠ ((.slice Ao18 t824.length co18) : Value).ownBlock) (.slice Ao26 t834.length co26) t834) ∧ Aside0 (wc.heap[gb819]? = some (.cells #[.int .i64 t810, (.slice Ao11 t811.length co11), (.slice Ao12 t814.length co12)] 41 (0, 0))) ∧ Aside0 (wc.heap[gb829]? = some (.cells #[.int .i64 t820, (.slice Ao17 t821.length co17), (.slice Ao18 t824.length co18)] 41 (0, 0))) ∧ Aside0 (wc.heap[gb839]? = some (.cells #[.int .i64 t830, (.slice Ao25 t831.length co25), (.slice Ao26 t834.length co26)] 41 (0, 0))) ∧ Aside0 (Below w.heap.size w wc))
  case first =>
   have H := HC7.out
   clear HC7
   by_cases c27 : (t828 != t838) = true
   ·rw [if_pos c27] at H
    have c27b0 : (t828 != t838) = true := c27
    (try (have c27b1 : decide (t828 = t838) = false := by simpa using c27))
    (try (have c27b2 : (t828 == t838) = false := by simpa using c27))
    (try (have c27b3 : ¬ (t828 = t838) := by simpa using c27))
    clear c27
    (first | rw [c27b0] | (simp only [i64_w, i32_w]; rw [c27b0]) | skip)
    have H' := Aside0.mk H
    clear H
    go_wp2
    go_meet
    case rel => exact ⟨_, (true), (by first | rfl | (simp; done) | (simp [*]; done)), H', ⟨by first | omega | exact Nat.le_refl _⟩, ⟨by refine rk ?_; exact Kd.R_mono (Kd.R_far (p := ⟨gb839, 2, none⟩) (Kd.R_far (p := ⟨gb839, 1, none⟩) (Kd.R_far (p := ⟨gb839, 0, none⟩) (Kd.R_types HO813.out BK839.out (by decide)) (fun _ hk => hk.2) (.int .i64 t830)) (fun _ hk => hk.2) (.slice Ao25 t831.length co25)) (fun _ hk => hk.2) (.slice Ao26 t834.length co26)) (fun _ hk => ⟨hk.1.1.2, hk.1.2⟩)⟩, ⟨by refine rk ?_; exact Kd.R_mono (Kd.R_far (p := ⟨gb839, 2, none⟩) (Kd.R_far (p := ⟨gb839, 1, none⟩) (Kd.R_far (p := ⟨gb839, 0, none⟩) (Kd.R_types HO816.out BK839.out (by decide)) (fun _ hk => hk.2) (.int .i64 t830)) (fun _ hk => hk.2) (.slice Ao25 t831.length co25)) (fun _ hk => hk.2) (.slice Ao26 t834.length co26)) (fun _ hk => ⟨hk.1.1.2, hk.1.2⟩)⟩, ⟨by refine rk ?_; exact Kd.R_mono (Kd.R_far (p := ⟨gb839, 2, none⟩) (Kd.R_far (p := ⟨gb839, 1, none⟩) (Kd.R_far (p := ⟨gb839, 0, none⟩) (Kd.R_types HO823.out BK839.out (by decide)) (fun _ hk => hk.2) (.int .i64 t830)) (fun _ hk => hk.2) (.slice Ao25 t831.length co25)) (fun _ hk => hk.2) (.slice Ao26 t834.length co26)) (fun _ hk => ⟨hk.1.1.2, hk.1.2⟩)⟩, ⟨by refine rk ?_; exact Kd.R_mono (Kd.R_far (p := ⟨gb839, 2, none⟩) (Kd.R_far (p := ⟨gb839, 1, none⟩) (Kd.R_far (p := ⟨gb839, 0, none⟩) (Kd.R_types HO826.out BK839.out (by decide)) (fun _ hk => hk.2) (.int .i64 t830)) (fun _ hk => hk.2) (.slice Ao25 t831.length co25)) (fun _ hk => hk.2) (.slice Ao26 t834.length co26)) (fun _ hk => ⟨hk.1.1.2, hk.1.2⟩)⟩, ⟨by refine rk ?_; exact Kd.R_mono (Kd.R_far (p := ⟨gb839, 2, none⟩) (Kd.R_far (p := ⟨gb839, 1, none⟩) (Kd.R_far (p := ⟨gb839, 0, none⟩) (Kd.R_types HO833.out BK839.out (by decide)) (fun _ hk => hk.2) (.int .i64 t830)) (fun _ hk => hk.2) (.slice Ao25 t831.length co25)) (fun _ hk => hk.2) (.slice Ao26 t834.length co26)) (fun _ hk => ⟨hk.1.1.2, hk.1.2⟩)⟩, ⟨by refine rk ?_; exact Kd.R_mono (Kd.R_far (p := ⟨gb839, 2, none⟩) (Kd.R_far (p := ⟨gb839, 1, none⟩) (Kd.R_far (p := ⟨gb839, 0, none⟩) (Kd.R_types HO836.out BK839.out (by decide)) (fun _ hk => hk.2) (.int .i64 t830)) (fun _ hk => hk.2) (.slice Ao25 t831.length co25)) (fun _ hk => hk.2) (.slice Ao26 t834.length co26)) (fun _ hk => ⟨hk.1.1.2, hk.1.2⟩)⟩, ⟨by refine bk ?_; refine blk_far ?_ NB819_839.out _; refine bk ?_; refine blk_far ?_ NB819_839.out _; refine bk ?_; refine blk_far ?_ NB819_839.out _; refine bk ?_; exact BK819.out⟩, ⟨by refine bk ?_; refine blk_far ?_ NB829_839.out _; refine bk ?_; refine blk_far ?_ NB829_839.out _; refine bk ?_; refine blk_far ?_ NB829_839.out _; refine bk ?_; exact BK829.out⟩, ⟨by refine bk ?_; refine blk_put (cs := #[.int .i64 t830, .slice Ao25 t831.length co25, .slice none 0 0]) ?_ 2 _ rfl; refine bk ?_; refine blk_put (cs := #[.int .i64 t830, .slice none 0 0, .slice none 0 0]) ?_ 1 _ rfl; refine bk ?_; refine blk_put (cs := #[.int .i64 0, .slice none 0 0, .slice none 0 0]) ?_ 0 _ rfl; refine bk ?_; exact BK839.out⟩, ⟨bl HB.out⟩⟩
   ·rw [if_neg c27] at H
    have c27b0 : (t828 != t838) = false := by simpa using c27
    (try (have c27b1 : decide (t828 = t838) = true := by simpa using c27))
    (try (have c27b2 : (t828 == t838) = true := by simpa using c27))
    clear c27
    (first | rw [c27b0] | (simp only [i64_w, i32_w]; rw [c27b0]) | skip)
    by_cases c28 : t827 = t837
    ·rw [if_pos c28] at H
     have c28b0 : (t827 == t837) = true := beq_iff_eq.mpr c28
     have c28b1 : (t827 != t837) = false := bne_eq_false_iff_eq.mpr c28
     clear c28
     replace H := bo.mp H
     obtain ⟨t840, A290, H⟩ := H
     try dsimp only at H
     have A29 := Aside0.mk A290
     clear A290
     have H' := Aside0.mk H
     clear H
     have hnb30 := NB829_819.out
     have hnc30 := NB819_829.out
     have hnb31 := NB829_839.out
     have hnc31 := NB839_829.out
     obtain ⟨hcz32_0, hcz32_1, hcz32_2, hfz32_0, hfz32_1, hfz32_2⟩ := cz3 BK829.out
     have hnb33 := NB839_819.out
     have hnc33 := NB819_839.out
     obtain ⟨hcz34_0, hcz34_1, hcz34_2, hfz34_0, hfz34_1, hfz34_2⟩ := cz3 BK839.out
     go_wp2_with (first | (go_at_call 31; (with_reducible refine (laws_sameColumn.calls k t820 _ _ t821 _ _ t824 t830 _ _ t831 _ _ t834 t840 _ ?side1 ?side2 ?side3 ?side4 ?side5 ?side6 ?side7 ?side8 A29.out).mono ?_); (case side1 => refine (Kd.R_reads' (e := 3) (base := w.heap.size) (ok := fun k_ => ((True ∧ some k_ ≠ (.slice Ao11 t811.length co11 : Value).ownBlock) ∧ some k_ ≠ (.slice Ao25 t831.length co25 : Value).ownBlock)) (n := t821.length) (c := co17) ?_).2.2; exact (by refine rk ?_; exact (Kd.R_mono (Kd.R_far (p := ⟨gb839, 2, none⟩) (Kd.R_far (p := ⟨gb839, 1, none⟩) (Kd.R_far (p := ⟨gb839, 0, none⟩) (Kd.R_types HO823.out BK839.out (by decide)) (fun _ hk => hk.2) (.int .i64 t830)) (fun _ hk => hk.2) (.slice Ao25 t831.length co25)) (fun _ hk => hk.2) (.slice Ao26 t834.length co26)) (fun _ h_ => h_.1)))); (case side2 => exact (Kd.R_reads' HO823.out).2.1); (case side3 => refine (Kd.R_reads' (e := 98) (base := w.heap.size) (ok := fun k_ => ((True ∧ some k_ ≠ (.slice Ao12 t814.length co12 : Value).ownBlock) ∧ some k_ ≠ (.slice Ao26 t834.length co26 : Value).ownBlock)) (n := t824.length) (c := co18) ?_).2.2; exact (by refine rk ?_; exact (Kd.R_mono (Kd.R_far (p := ⟨gb839, 2, none⟩) (Kd.R_far (p := ⟨gb839, 1, none⟩) (Kd.R_far (p := ⟨gb839, 0, none⟩) (Kd.R_types HO826.out BK839.out (by decide)) (fun _ hk => hk.2) (.int .i64 t830)) (fun _ hk => hk.2) (.slice Ao25 t831.length co25)) (fun _ hk => hk.2) (.slice Ao26 t834.length co26)) (fun _ h_ => h_.1)))); (case side4 => exact (Kd.R_reads' HO826.out).2.1); (case side5 => refine (Kd.R_reads' (e := 3) (base := w.heap.size) (ok := fun k_ => ((True ∧ some k_ ≠ (.slice Ao11 t811.length co11 : Value).ownBlock) ∧ some k_ ≠ (.slice Ao17 t821.length co17 : Value).ownBlock)) (n := t831.length) (c := co25) ?_).2.2; exact (by refine rk ?_; exact (Kd.R_mono (Kd.R_far (p := ⟨gb839, 2, none⟩) (Kd.R_far (p := ⟨gb839, 1, none⟩) (Kd.R_far (p := ⟨gb839, 0, none⟩) (Kd.R_types HO833.out BK839.out (by decide)) (fun _ hk => hk.2) (.int .i64 t830)) (fun _ hk => hk.2) (.slice Ao25 t831.length co25)) (fun _ hk => hk.2) (.slice Ao26 t834.length co26)) (fun _ h_ => h_.1)))); (case side6 => exact (Kd.R_reads' HO833.out).2.1); (case side7 => refine (Kd.R_reads' (e := 98) (base := w.heap.size) (ok := fun k_ => ((True ∧ some k_ ≠ (.slice Ao12 t814.length co12 : Value).ownBlock) ∧ some k_ ≠ (.slice Ao18 t824.length co18 : Value).ownBlock)) (n := t834.length) (c := co26) ?_).2.2; exact (by refine rk ?_; exact (Kd.R_mono (Kd.R_far (p := ⟨gb839, 2, none⟩) (Kd.R_far (p := ⟨gb839, 1, none⟩) (Kd.R_far (p := ⟨gb839, 0, none⟩) (Kd.R_types HO836.out BK839.out (by decide)) (fun _ hk => hk.2) (.int .i64 t830)) (fun _ hk => hk.2) (.slice Ao25 t831.length co25)) (fun _ hk => hk.2) (.slice Ao26 t834.length co26)) (fun _ h_ => h_.1)))); (case side8 => exact (Kd.R_reads' HO836.out).2.1); rintro e w35 ⟨rfl, hb⟩; replace HO813 := Aside0.mk (Kd.R_below (by refine rk ?_; exact (Kd.R_mono (Kd.R_far (p := ⟨gb839, 2, none⟩) (Kd.R_far (p := ⟨gb839, 1, none⟩) (Kd.R_far (p := ⟨gb839, 0, none⟩) (Kd.R_types HO813.out BK839.out (by decide)) (fun _ hk => hk.2) (.int .i64 t830)) (fun _ hk => hk.2) (.slice Ao25 t831.length co25)) (fun _ hk => hk.2) (.slice Ao26 t834.length co26)) (fun _ h_ => h_.1))) hb); replace HO816 := Aside0.mk (Kd.R_below (by refine rk ?_; exact (Kd.R_mono (Kd.R_far (p := ⟨gb839, 2, none⟩) (Kd.R_far (p := ⟨gb839, 1, none⟩) (Kd.R_far (p := ⟨gb839, 0, none⟩) (Kd.R_types HO816.out BK839.out (by decide)) (fun _ hk => hk.2) (.int .i64 t830)) (fun _ hk => hk.2) (.slice Ao25 t831.length co25)) (fun _ hk => hk.2) (.slice Ao26 t834.length co26)) (fun _ h_ => h_.1))) hb); replace HO823 := Aside0.mk (Kd.R_below (by refine rk ?_; exact (Kd.R_mono (Kd.R_far (p := ⟨gb839, 2, none⟩) (Kd.R_far (p := ⟨gb839, 1, none⟩) (Kd.R_far (p := ⟨gb839, 0, none⟩) (Kd.R_types HO823.out BK839.out (by decide)) (fun _ hk => hk.2) (.int .i64 t830)) (fun _ hk => hk.2) (.slice Ao25 t831.length co25)) (fun _ hk => hk.2) (.slice Ao26 t834.length co26)) (fun _ h_ => h_.1))) hb); replace HO826 := Aside0.mk (Kd.R_below (by refine rk ?_; exact (Kd.R_mono (Kd.R_far (p := ⟨gb839, 2, none⟩) (Kd.R_far (p := ⟨gb839, 1, none⟩) (Kd.R_far (p := ⟨gb839, 0, none⟩) (Kd.R_types HO826.out BK839.out (by decide)) (fun _ hk => hk.2) (.int .i64 t830)) (fun _ hk => hk.2) (.slice Ao25 t831.length co25)) (fun _ hk => hk.2) (.slice Ao26 t834.length co26)) (fun _ h_ => h_.1))) hb); replace HO833 := Aside0.mk (Kd.R_below (by refine rk ?_; exact (Kd.R_mono (Kd.R_far (p := ⟨gb839, 2, none⟩) (Kd.R_far (p := ⟨gb839, 1, none⟩) (Kd.R_far (p := ⟨gb839, 0, none⟩) (Kd.R_types HO833.out BK839.out (by decide)) (fun _ hk => hk.2) (.int .i64 t830)) (fun _ hk => hk.2) (.slice Ao25 t831.length co25)) (fun _ hk => hk.2) (.slice Ao26 t834.length co26)) (fun _ h_ => h_.1))) hb); replace HO836 := Aside0.mk (Kd.R_below (by refine rk ?_; exact (Kd.R_mono (Kd.R_far (p := ⟨gb839, 2, none⟩) (Kd.R_far (p := ⟨gb839, 1, none⟩) (Kd.R_far (p := ⟨gb839, 0, none⟩) (Kd.R_types HO836.out BK839.out (by decide)) (fun _ hk => hk.2) (.int .i64 t830)) (fun _ hk => hk.2) (.slice Ao25 t831.length co25)) (fun _ hk => hk.2) (.slice Ao26 t834.length co26)) (fun _ h_ => h_.1))) hb); replace BK819 := Aside0.mk (blk_below (g := gb819) (o := .cells #[.int .i64 t810, .slice Ao11 t811.length co11, .slice Ao12 t814.length co12] 41 (0, 0)) (bf BK819.out) hb); replace BK829 := Aside0.mk (blk_below (g := gb829) (o := .cells #[.int .i64 t820, .slice Ao17 t821.length co17, .slice Ao18 t824.length co18] 41 (0, 0)) (bf BK829.out) hb); replace BK839 := Aside0.mk (blk_below (g := gb839) (o := .cells #[.int .i64 t830, .slice Ao25 t831.length co25, .slice Ao26 t834.length co26] 41 (0, 0)) (by refine bk ?_; refine blk_put (cs := #[.int .i64 t830, .slice Ao25 t831.length co25, .slice none 0 0]) ?_ 2 _ rfl; refine bk ?_; refine blk_put (cs := #[.int .i64 t830, .slice none 0 0, .slice none 0 0]) ?_ 1 _ rfl; refine bk ?_; refine blk_put (cs := #[.int .i64 0, .slice none 0 0, .slice none 0 0]) ?_ 0 _ rfl; refine bk ?_; exact BK839.out) hb); replace HB := Aside0.mk (below_step (bl HB.out) hb); (try clear hb); (try clear hb2); (try clear hk); (try clear hi)))
     go_meet
     case rel => exact ⟨_, (!t840), (by first | rfl | (simp; done) | (simp [*]; done)), H', ⟨by first | omega | exact Nat.le_refl _⟩, ⟨by refine rk ?_; exact Kd.R_mono HO813.out (fun _ hk => ⟨hk.1.2, hk.2⟩)⟩, ⟨by refine rk ?_; exact Kd.R_mono HO816.out (fun _ hk => ⟨hk.1.2, hk.2⟩)⟩, ⟨by refine rk ?_; exact Kd.R_mono HO823.out (fun _ hk => ⟨hk.1.2, hk.2⟩)⟩, ⟨by refine rk ?_; exact Kd.R_mono HO826.out (fun _ hk => ⟨hk.1.2, hk.2⟩)⟩, ⟨by refine rk ?_; exact Kd.R_mono HO833.out (fun _ hk => ⟨hk.1.2, hk.2⟩)⟩, ⟨by refine rk ?_; exact Kd.R_mono HO836.out (fun _ hk => ⟨hk.1.2, hk.2⟩)⟩, ⟨by refine bk ?_; exact BK819.out⟩, ⟨by refine bk ?_; exact BK829.out⟩, ⟨by refine bk ?_; exact BK839.out⟩, ⟨bl HB.out⟩⟩
    ·rw [if_neg c28] at H
     have c28b0 : (t827 == t837) = false := beq_eq_false_iff_ne.mpr c28
     have c28b1 : (t827 != t837) = true := bne_iff_ne.mpr c28
     have H' := Aside0.mk H
     clear H
     go_wp2
     go_meet
     case rel => exact ⟨_, (true), (by first | rfl | (simp; done) | (simp [*]; done)), H', ⟨by first | omega | exact Nat.le_refl _⟩, ⟨by refine rk ?_; exact Kd.R_mono (Kd.R_far (p := ⟨gb839, 2, none⟩) (Kd.R_far (p := ⟨gb839, 1, none⟩) (Kd.R_far (p := ⟨gb839, 0, none⟩) (Kd.R_types HO813.out BK839.out (by decide)) (fun _ hk => hk.2) (.int .i64 t830)) (fun _ hk => hk.2) (.slice Ao25 t831.length co25)) (fun _ hk => hk.2) (.slice Ao26 t834.length co26)) (fun _ hk => ⟨hk.1.1.2, hk.1.2⟩)⟩, ⟨by refine rk ?_; exact Kd.R_mono (Kd.R_far (p := ⟨gb839, 2, none⟩) (Kd.R_far (p := ⟨gb839, 1, none⟩) (Kd.R_far (p := ⟨gb839, 0, none⟩) (Kd.R_types HO816.out BK839.out (by decide)) (fun _ hk => hk.2) (.int .i64 t830)) (fun _ hk => hk.2) (.slice Ao25 t831.length co25)) (fun _ hk => hk.2) (.slice Ao26 t834.length co26)) (fun _ hk => ⟨hk.1.1.2, hk.1.2⟩)⟩, ⟨by refine rk ?_; exact Kd.R_mono (Kd.R_far (p := ⟨gb839, 2, none⟩) (Kd.R_far (p := ⟨gb839, 1, none⟩) (Kd.R_far (p := ⟨gb839, 0, none⟩) (Kd.R_types HO823.out BK839.out (by decide)) (fun _ hk => hk.2) (.int .i64 t830)) (fun _ hk => hk.2) (.slice Ao25 t831.length co25)) (fun _ hk => hk.2) (.slice Ao26 t834.length co26)) (fun _ hk => ⟨hk.1.1.2, hk.1.2⟩)⟩, ⟨by refine rk ?_; exact Kd.R_mono (Kd.R_far (p := ⟨gb839, 2, none⟩) (Kd.R_far (p := ⟨gb839, 1, none⟩) (Kd.R_far (p := ⟨gb839, 0, none⟩) (Kd.R_types HO826.out BK839.out (by decide)) (fun _ hk => hk.2) (.int .i64 t830)) (fun _ hk => hk.2) (.slice Ao25 t831.length co25)) (fun _ hk => hk.2) (.slice Ao26 t834.length co26)) (fun _ hk => ⟨hk.1.1.2, hk.1.2⟩)⟩, ⟨by refine rk ?_; exact Kd.R_mono (Kd.R_far (p := ⟨gb839, 2, none⟩) (Kd.R_far (p := ⟨gb839, 1, none⟩) (Kd.R_far (p := ⟨gb839, 0, none⟩) (Kd.R_types HO833.out BK839.out (by decide)) (fun _ hk => hk.2) (.int .i64 t830)) (fun _ hk => hk.2) (.slice Ao25 t831.length co25)) (fun _ hk => hk.2) (.slice Ao26 t834.length co26)) (fun _ hk => ⟨hk.1.1.2, hk.1.2⟩)⟩, ⟨by refine rk ?_; exact Kd.R_mono (Kd.R_far (p := ⟨gb839, 2, none⟩) (Kd.R_far (p := ⟨gb839, 1, none⟩) (Kd.R_far (p := ⟨gb839, 0, none⟩) (Kd.R_types HO836.out BK839.out (by decide)) (fun _ hk => hk.2) (.int .i64 t830)) (fun _ hk => hk.2) (.slice Ao25 t831.length co25)) (fun _ hk => hk.2) (.slice Ao26 t834.length co26)) (fun _ hk => ⟨hk.1.1.2, hk.1.2⟩)⟩, ⟨by refine bk ?_; refine blk_far ?_ NB819_839.out _; refine bk ?_; refine blk_far ?_ NB819_839.out _; refine bk ?_; refine blk_far ?_ NB819_839.out _; refine bk ?_; exact BK819.out⟩, ⟨by refine bk ?_; refine blk_far ?_ NB829_839.out _; refine bk ?_; refine blk_far ?_ NB829_839.out _; refine bk ?_; refine blk_far ?_ NB829_839.out _; refine bk ?_; exact BK829.out⟩, ⟨by refine bk ?_; refine blk_put (cs := #[.int .i64 t830, .slice Ao25 t831.length co25, .slice none 0 0]) ?_ 2 _ rfl; refine bk ?_; refine blk_put (cs := #[.int .i64 t830, .slice none 0 0, .slice none 0 0]) ?_ 1 _ rfl; refine bk ?_; refine blk_put (cs := #[.int .i64 0, .slice none 0 0, .slice none 0 0]) ?_ 0 _ rfl; refine bk ?_; exact BK839.out⟩, ⟨bl HB.out⟩⟩
  case rest =>
   clear HC7
   try clear c1
   try clear c2
   try clear p2
   try clear c3
   try clear c5
   try clear c15
   try clear c22
   try clear c23
   try clear c27
   try clear c27b0
   try clear c27b1
   try clear c27b2
   try clear c28
   try clear c28b0
   try clear c28b1
   try clear c29
   try clear c30
   try clear c31
   try clear c33
   try clear hcz10_0
   try clear hcz10_1
   try clear hcz10_2
   try clear hcz16_0
   try clear hcz16_1
   try clear hcz16_2
   try clear hcz19_0
   try clear hcz19_1
   try clear hcz19_2
   try clear hcz24_0
   try clear hcz24_1
   try clear hcz24_2
   try clear hcz32_0
   try clear hcz32_1
   try clear hcz32_2
   try clear hcz34_0
   try clear hcz34_1
   try clear hcz34_2
   try clear hfz10_0
   try clear hfz10_1
   try clear hfz10_2
   try clear hfz16_0
   try clear hfz16_1
   try clear hfz16_2
   try clear hfz19_0
   try clear hfz19_1
   try clear hfz19_2
   try clear hfz24_0
   try clear hfz24_1
   try clear hfz24_2
   try clear hfz32_0
   try clear hfz32_1
   try clear hfz32_2
   try clear hfz34_0
   try clear hfz34_1
   try clear hfz34_2
   obtain ⟨kq, x55_6, rfl, HA, HJ6, HO_820001, HO_820002, HO_830001, HO_830002, HO_840001, HO_840002, BK819, BK829, BK839, HB⟩ := hcut
   cases kq with
   | zero => exact absurd HA.out (by simp [laws_FnBoxes.j0])
   | succ kj6 =>
    have H := HA.out
    clear HA
    simp only [laws_FnBoxes.j0] at H
    by_cases c36 : x55_6 = true
    ·subst c36
     rw [if_pos rfl] at H
     exact nf H hr_.out
    ·replace c36 := Bool.eq_false_iff.mpr c36
     subst c36
     rw [if_neg (show ¬ (false = true) by decide)] at H
     by_cases c37 : t828 = true
     ·subst c37
      rw [if_pos rfl] at H
      replace H := bo.mp H
      obtain ⟨⟨t842, t843, t846, t849⟩, A380, H⟩ := H
      try dsimp only at H
      have A38 := Aside0.mk A380
      clear A380
      replace H := bo.mp H
      obtain ⟨⟨t851, t852, t855, t858⟩, A390, H⟩ := H
      try dsimp only at H
      have A39 := Aside0.mk A390
      clear A390
      replace H := bo.mp H
      obtain ⟨⟨t860, t861, t862, t863⟩, A400, H⟩ := H
      try dsimp only at H
      have A40 := Aside0.mk A400
      clear A400
      replace H := bo.mp H
      obtain ⟨t865, A410, H⟩ := H
      try dsimp only at H
      have A41 := Aside0.mk A410
      clear A410
      by_cases c42 : t865 = true
      ·subst c42
       rw [if_pos rfl] at H
       by_cases c43 : t849 = true
       ·subst c43
        rw [if_pos rfl] at H
        by_cases c44 : t858 = true
        ·subst c44
         rw [if_pos rfl] at H
         exact nf H hr_.out
        ·replace c44 := Bool.eq_false_iff.mpr c44
         subst c44
         rw [if_neg (show ¬ (false = true) by decide)] at H
         replace H := bo.mp H
         obtain ⟨t866, A450, H⟩ := H
         try dsimp only at H
         have A45 := Aside0.mk A450
         clear A450
         by_cases c46 : t866 = true
         ·subst c46
          rw [if_pos rfl] at H
          by_cases c47 : t863 = true
          ·subst c47
           rw [if_pos rfl] at H
           by_cases c48 : t861 = t827
           ·rw [if_pos c48] at H
            have c48b0 : (t861 == t827) = true := beq_iff_eq.mpr c48
            have c48b1 : (t861 != t827) = false := bne_eq_false_iff_eq.mpr c48
            clear c48
            by_cases c49 : t862 ≥ t818
            ·rw [if_pos c49] at H
             have c49b0 : decide (t818 ≤ t862) = true := decide_eq_true c49
             clear c49
             replace H := bo.mp H
             obtain ⟨t867, A500, H⟩ := H
             try dsimp only at H
             have A50 := Aside0.mk A500
             clear A500
             replace H := bo.mp H
             obtain ⟨t870, A510, H⟩ := H
             try dsimp only at H
             have A51 := Aside0.mk A510
             clear A510
             replace H := bo.mp H
             obtain ⟨t871, A520, H⟩ := H
             try dsimp only at H
             have A52 := Aside0.mk A520
             clear A520
             replace H := bo.mp H
             obtain ⟨t874, A530, H⟩ := H
             try dsimp only at H
             have A53 := Aside0.mk A530
             clear A530
             by_cases c54 : t870 = (wrap64 (t874 - t818))
             ·rw [if_pos c54] at H
              have c54b0 : (t870 == (wrap64 (t874 - t818))) = true := beq_iff_eq.mpr c54
              have c54b1 : (t870 != (wrap64 (t874 - t818))) = false := bne_eq_false_iff_eq.mpr c54
              clear c54
              replace H := bo.mp H
              obtain ⟨t875, A550, H⟩ := H
              try dsimp only at H
              have A55 := Aside0.mk A550
              clear A550
              replace H := bo.mp H
              obtain ⟨t878, A560, H⟩ := H
              try dsimp only at H
              have A56 := Aside0.mk A560
              clear A560
              replace H := bo.mp H
              obtain ⟨t879, A570, H⟩ := H
              try dsimp only at H
              have A57 := Aside0.mk A570
              clear A570
              replace H := bo.mp H
              obtain ⟨t882, A580, H⟩ := H
              try dsimp only at H
              have A58 := Aside0.mk A580
              clear A580
              obtain rfl := Option.some.inj H
              have hnb59 := NB839_819.out
              have hnc59 := NB819_839.out
              have hnb60 := NB839_829.out
              have hnc60 := NB829_839.out
              obtain ⟨hcz61_0, hcz61_1, hcz61_2, hfz61_0, hfz61_1, hfz61_2⟩ := cz3 BK839.out
              try go_wp2_with (first | ((with_reducible refine gate_callee (f := 32) rfl ?_); refine goesL_ (some 68) rfl rfl Try.func32 (by kernel_rfl) rfl #[.agg #[.int .i64 t830, .slice Ao25 t831.length co25, .slice Ao26 t834.length co26], .int .i64 t817] rfl mapd ?_; (with_reducible refine (impl_TakeOut.calls t830 _ _ t831 _ _ t834 t817 t842 t843 t846 true _ ?side1 ?side2 ?side3 ?side4 A38.out).mono ?_); (case side1 => exact cb ((Kd.R_reads' HO_840001.out).2.2)); (case side2 => exact (Kd.R_reads' HO_840001.out).2.1); (case side3 => exact cb ((Kd.R_reads' HO_840002.out).2.2)); (case side4 => exact (Kd.R_reads' HO_840002.out).2.1); rintro e w62 ⟨v844, v847, rfl, ho0, ho1, hb⟩; refine ⟨_, rfl, ?_⟩; have HO845 := Aside0.mk (Kd.R_lower (Kd.R_new' (Kd.R_new' (Kd.R_new' ho0 (Kd.R_lt (rk HO_820001.out))) (Kd.R_lt (rk HO_830001.out))) (Kd.R_lt (rk HO_840001.out))) (below_size (bl HB.out))); replace HO_820001 := Aside0.mk (Kd.R_elder' (rk HO_820001.out) (Kd.R_base ho0) hb); replace HO_830001 := Aside0.mk (Kd.R_elder' (rk HO_830001.out) (Kd.R_base ho0) hb); replace HO_840001 := Aside0.mk (Kd.R_elder' (rk HO_840001.out) (Kd.R_base ho0) hb); have HO848 := Aside0.mk (Kd.R_lower (Kd.R_new' (Kd.R_new' (Kd.R_new' ho1 (Kd.R_lt (rk HO_820002.out))) (Kd.R_lt (rk HO_830002.out))) (Kd.R_lt (rk HO_840002.out))) (below_size (bl HB.out))); replace HO_820002 := Aside0.mk (Kd.R_elder' (rk HO_820002.out) (Kd.R_base ho1) hb); replace HO_830002 := Aside0.mk (Kd.R_elder' (rk HO_830002.out) (Kd.R_base ho1) hb); replace HO_840002 := Aside0.mk (Kd.R_elder' (rk HO_840002.out) (Kd.R_base ho1) hb); replace BK819 := Aside0.mk (bb BK819.out hb); replace BK829 := Aside0.mk (bb BK829.out hb); replace BK839 := Aside0.mk (bb BK839.out hb); replace HB := Aside0.mk (below_step (bl HB.out) hb); (try clear hb); (try clear hb2); (try clear hk); (try clear hi); (try clear ho0); (try clear ho1)) | ((with_reducible refine gate_dst (N := 12) rfl ?_); refine bx (cs := #[.int .i64 0, .slice none 0 0, .slice none 0 0]) (t := 41) fun gb850 hg w63 hbox hb => ?_; replace HO_820001 := Aside0.mk (Kd.R_below (rk HO_820001.out) hb); replace HO_820002 := Aside0.mk (Kd.R_below (rk HO_820002.out) hb); replace HO_830001 := Aside0.mk (Kd.R_below (rk HO_830001.out) hb); replace HO_830002 := Aside0.mk (Kd.R_below (rk HO_830002.out) hb); replace HO_840001 := Aside0.mk (Kd.R_below (rk HO_840001.out) hb); replace HO_840002 := Aside0.mk (Kd.R_below (rk HO_840002.out) hb); replace HO845 := Aside0.mk (Kd.R_below (rk HO845.out) hb); replace HO848 := Aside0.mk (Kd.R_below (rk HO848.out) hb); have BK850 := Aside0.mk (hbox); have GW850 := Aside0.mk (gs HB.out hg); have GE850 := Aside0.mk (gs HB.out hg); replace HB := Aside0.mk (below_step (bl HB.out) hb); have NB819_850 := Aside0.mk ((nl BK819.out hg)); have NB850_819 := Aside0.mk ((ng BK819.out hg)); replace BK819 := Aside0.mk (bb BK819.out hb); have NB829_850 := Aside0.mk ((nl BK829.out hg)); have NB850_829 := Aside0.mk ((ng BK829.out hg)); replace BK829 := Aside0.mk (bb BK829.out hb); have NB839_850 := Aside0.mk ((nl BK839.out hg)); have NB850_839 := Aside0.mk ((ng BK839.out hg)); replace BK839 := Aside0.mk (bb BK839.out hb); clear hb hbox hg; have hnb64 := NB850_819.out; have hnc64 := NB819_850.out; have hnb65 := NB850_829.out; have hnc65 := NB829_850.out; have hnb66 := NB850_839.out; have hnc66 := NB839_850.out; obtain ⟨hcz67_0, hcz67_1, hcz67_2, hfz67_0, hfz67_1, hfz67_2⟩ := cz3 BK850.out; obtain ⟨Ao68, co68, eo68⟩ := Kd.R_slice HO845.out; subst eo68; obtain ⟨Ao69, co69, eo69⟩ := Kd.R_slice HO848.out; subst eo69) | ((with_reducible refine gate_callee (f := 32) rfl ?_); refine goesL_ (some 74) rfl rfl Try.func32 (by kernel_rfl) rfl #[.agg #[.int .i64 t842, .slice Ao68 t843.length co68, .slice Ao69 t846.length co69], .int .i64 t817] rfl mapd ?_; (with_reducible refine (impl_TakeOut.calls t842 _ _ t843 _ _ t846 t817 t851 t852 t855 false _ ?side1 ?side2 ?side3 ?side4 A39.out).mono ?_); (case side1 => refine (Kd.R_reads' (e := 3) (base := w.heap.size) (ok := fun k_ => (((True ∧ some k_ ≠ (.slice Ao11 t811.length co11 : Value).ownBlock) ∧ some k_ ≠ (.slice Ao17 t821.length co17 : Value).ownBlock) ∧ some k_ ≠ (.slice Ao25 t831.length co25 : Value).ownBlock)) (n := t843.length) (c := co68) ?_).2.2; exact (by refine rk ?_; exact (Kd.R_mono (Kd.R_far (p := ⟨gb850, 2, none⟩) (Kd.R_far (p := ⟨gb850, 1, none⟩) (Kd.R_far (p := ⟨gb850, 0, none⟩) (Kd.R_types HO845.out BK850.out (by decide)) (fun _ hk => hk.2) (.int .i64 t842)) (fun _ hk => hk.2) (.slice Ao68 t843.length co68)) (fun _ hk => hk.2) (.slice Ao69 t846.length co69)) (fun _ h_ => h_.1)))); (case side2 => exact (Kd.R_reads' HO845.out).2.1); (case side3 => refine (Kd.R_reads' (e := 98) (base := w.heap.size) (ok := fun k_ => (((True ∧ some k_ ≠ (.slice Ao12 t814.length co12 : Value).ownBlock) ∧ some k_ ≠ (.slice Ao18 t824.length co18 : Value).ownBlock) ∧ some k_ ≠ (.slice Ao26 t834.length co26 : Value).ownBlock)) (n := t846.length) (c := co69) ?_).2.2; exact (by refine rk ?_; exact (Kd.R_mono (Kd.R_far (p := ⟨gb850, 2, none⟩) (Kd.R_far (p := ⟨gb850, 1, none⟩) (Kd.R_far (p := ⟨gb850, 0, none⟩) (Kd.R_types HO848.out BK850.out (by decide)) (fun _ hk => hk.2) (.int .i64 t842)) (fun _ hk => hk.2) (.slice Ao68 t843.length co68)) (fun _ hk => hk.2) (.slice Ao69 t846.length co69)) (fun _ h_ => h_.1)))); (case side4 => exact (Kd.R_reads' HO848.out).2.1); rintro e w70 ⟨v853, v856, rfl, ho0, ho1, hb⟩; refine ⟨_, rfl, ?_⟩; have HO854 := Aside0.mk (Kd.R_lower (Kd.R_new' (Kd.R_new' (Kd.R_new' (Kd.R_new' ho0 (Kd.R_lt (by refine rk ?_; exact (Kd.R_mono (Kd.R_far (p := ⟨gb850, 2, none⟩) (Kd.R_far (p := ⟨gb850, 1, none⟩) (Kd.R_far (p := ⟨gb850, 0, none⟩) (Kd.R_types HO_820001.out BK850.out (by decide)) (fun _ hk => hk.2) (.int .i64 t842)) (fun _ hk => hk.2) (.slice Ao68 t843.length co68)) (fun _ hk => hk.2) (.slice Ao69 t846.length co69)) (fun _ h_ => h_.1))))) (Kd.R_lt (by refine rk ?_; exact (Kd.R_mono (Kd.R_far (p := ⟨gb850, 2, none⟩) (Kd.R_far (p := ⟨gb850, 1, none⟩) (Kd.R_far (p := ⟨gb850, 0, none⟩) (Kd.R_types HO_830001.out BK850.out (by decide)) (fun _ hk => hk.2) (.int .i64 t842)) (fun _ hk => hk.2) (.slice Ao68 t843.length co68)) (fun _ hk => hk.2) (.slice Ao69 t846.length co69)) (fun _ h_ => h_.1))))) (Kd.R_lt (by refine rk ?_; exact (Kd.R_mono (Kd.R_far (p := ⟨gb850, 2, none⟩) (Kd.R_far (p := ⟨gb850, 1, none⟩) (Kd.R_far (p := ⟨gb850, 0, none⟩) (Kd.R_types HO_840001.out BK850.out (by decide)) (fun _ hk => hk.2) (.int .i64 t842)) (fun _ hk => hk.2) (.slice Ao68 t843.length co68)) (fun _ hk => hk.2) (.slice Ao69 t846.length co69)) (fun _ h_ => h_.1))))) (Kd.R_lt (by refine rk ?_; exact (Kd.R_mono (Kd.R_far (p := ⟨gb850, 2, none⟩) (Kd.R_far (p := ⟨gb850, 1, none⟩) (Kd.R_far (p := ⟨gb850, 0, none⟩) (Kd.R_types HO845.out BK850.out (by decide)) (fun _ hk => hk.2) (.int .i64 t842)) (fun _ hk => hk.2) (.slice Ao68 t843.length co68)) (fun _ hk => hk.2) (.slice Ao69 t846.length co69)) (fun _ h_ => h_.1))))) (below_size (bl HB.out))); replace HO_820001 := Aside0.mk (Kd.R_elder' (by refine rk ?_; exact (Kd.R_mono (Kd.R_far (p := ⟨gb850, 2, none⟩) (Kd.R_far (p := ⟨gb850, 1, none⟩) (Kd.R_far (p := ⟨gb850, 0, none⟩) (Kd.R_types HO_820001.out BK850.out (by decide)) (fun _ hk => hk.2) (.int .i64 t842)) (fun _ hk => hk.2) (.slice Ao68 t843.length co68)) (fun _ hk => hk.2) (.slice Ao69 t846.length co69)) (fun _ h_ => h_.1))) (Kd.R_base ho0) hb); replace HO_830001 := Aside0.mk (Kd.R_elder' (by refine rk ?_; exact (Kd.R_mono (Kd.R_far (p := ⟨gb850, 2, none⟩) (Kd.R_far (p := ⟨gb850, 1, none⟩) (Kd.R_far (p := ⟨gb850, 0, none⟩) (Kd.R_types HO_830001.out BK850.out (by decide)) (fun _ hk => hk.2) (.int .i64 t842)) (fun _ hk => hk.2) (.slice Ao68 t843.length co68)) (fun _ hk => hk.2) (.slice Ao69 t846.length co69)) (fun _ h_ => h_.1))) (Kd.R_base ho0) hb); replace HO_840001 := Aside0.mk (Kd.R_elder' (by refine rk ?_; exact (Kd.R_mono (Kd.R_far (p := ⟨gb850, 2, none⟩) (Kd.R_far (p := ⟨gb850, 1, none⟩) (Kd.R_far (p := ⟨gb850, 0, none⟩) (Kd.R_types HO_840001.out BK850.out (by decide)) (fun _ hk => hk.2) (.int .i64 t842)) (fun _ hk => hk.2) (.slice Ao68 t843.length co68)) (fun _ hk => hk.2) (.slice Ao69 t846.length co69)) (fun _ h_ => h_.1))) (Kd.R_base ho0) hb); replace HO845 := Aside0.mk (Kd.R_elder' (by refine rk ?_; exact (Kd.R_mono (Kd.R_far (p := ⟨gb850, 2, none⟩) (Kd.R_far (p := ⟨gb850, 1, none⟩) (Kd.R_far (p := ⟨gb850, 0, none⟩) (Kd.R_types HO845.out BK850.out (by decide)) (fun _ hk => hk.2) (.int .i64 t842)) (fun _ hk => hk.2) (.slice Ao68 t843.length co68)) (fun _ hk => hk.2) (.slice Ao69 t846.length co69)) (fun _ h_ => h_.1))) (Kd.R_base ho0) hb); have HO857 := Aside0.mk (Kd.R_lower (Kd.R_new' (Kd.R_new' (Kd.R_new' (Kd.R_new' ho1 (Kd.R_lt (by refine rk ?_; exact (Kd.R_mono (Kd.R_far (p := ⟨gb850, 2, none⟩) (Kd.R_far (p := ⟨gb850, 1, none⟩) (Kd.R_far (p := ⟨gb850, 0, none⟩) (Kd.R_types HO_820002.out BK850.out (by decide)) (fun _ hk => hk.2) (.int .i64 t842)) (fun _ hk => hk.2) (.slice Ao68 t843.length co68)) (fun _ hk => hk.2) (.slice Ao69 t846.length co69)) (fun _ h_ => h_.1))))) (Kd.R_lt (by refine rk ?_; exact (Kd.R_mono (Kd.R_far (p := ⟨gb850, 2, none⟩) (Kd.R_far (p := ⟨gb850, 1, none⟩) (Kd.R_far (p := ⟨gb850, 0, none⟩) (Kd.R_types HO_830002.out BK850.out (by decide)) (fun _ hk => hk.2) (.int .i64 t842)) (fun _ hk => hk.2) (.slice Ao68 t843.length co68)) (fun _ hk => hk.2) (.slice Ao69 t846.length co69)) (fun _ h_ => h_.1))))) (Kd.R_lt (by refine rk ?_; exact (Kd.R_mono (Kd.R_far (p := ⟨gb850, 2, none⟩) (Kd.R_far (p := ⟨gb850, 1, none⟩) (Kd.R_far (p := ⟨gb850, 0, none⟩) (Kd.R_types HO_840002.out BK850.out (by decide)) (fun _ hk => hk.2) (.int .i64 t842)) (fun _ hk => hk.2) (.slice Ao68 t843.length co68)) (fun _ hk => hk.2) (.slice Ao69 t846.length co69)) (fun _ h_ => h_.1))))) (Kd.R_lt (by refine rk ?_; exact (Kd.R_mono (Kd.R_far (p := ⟨gb850, 2, none⟩) (Kd.R_far (p := ⟨gb850, 1, none⟩) (Kd.R_far (p := ⟨gb850, 0, none⟩) (Kd.R_types HO848.out BK850.out (by decide)) (fun _ hk => hk.2) (.int .i64 t842)) (fun _ hk => hk.2) (.slice Ao68 t843.length co68)) (fun _ hk => hk.2) (.slice Ao69 t846.length co69)) (fun _ h_ => h_.1))))) (below_size (bl HB.out))); replace HO_820002 := Aside0.mk (Kd.R_elder' (by refine rk ?_; exact (Kd.R_mono (Kd.R_far (p := ⟨gb850, 2, none⟩) (Kd.R_far (p := ⟨gb850, 1, none⟩) (Kd.R_far (p := ⟨gb850, 0, none⟩) (Kd.R_types HO_820002.out BK850.out (by decide)) (fun _ hk => hk.2) (.int .i64 t842)) (fun _ hk => hk.2) (.slice Ao68 t843.length co68)) (fun _ hk => hk.2) (.slice Ao69 t846.length co69)) (fun _ h_ => h_.1))) (Kd.R_base ho1) hb); replace HO_830002 := Aside0.mk (Kd.R_elder' (by refine rk ?_; exact (Kd.R_mono (Kd.R_far (p := ⟨gb850, 2, none⟩) (Kd.R_far (p := ⟨gb850, 1, none⟩) (Kd.R_far (p := ⟨gb850, 0, none⟩) (Kd.R_types HO_830002.out BK850.out (by decide)) (fun _ hk => hk.2) (.int .i64 t842)) (fun _ hk => hk.2) (.slice Ao68 t843.length co68)) (fun _ hk => hk.2) (.slice Ao69 t846.length co69)) (fun _ h_ => h_.1))) (Kd.R_base ho1) hb); replace HO_840002 := Aside0.mk (Kd.R_elder' (by refine rk ?_; exact (Kd.R_mono (Kd.R_far (p := ⟨gb850, 2, none⟩) (Kd.R_far (p := ⟨gb850, 1, none⟩) (Kd.R_far (p := ⟨gb850, 0, none⟩) (Kd.R_types HO_840002.out BK850.out (by decide)) (fun _ hk => hk.2) (.int .i64 t842)) (fun _ hk => hk.2) (.slice Ao68 t843.length co68)) (fun _ hk => hk.2) (.slice Ao69 t846.length co69)) (fun _ h_ => h_.1))) (Kd.R_base ho1) hb); replace HO848 := Aside0.mk (Kd.R_elder' (by refine rk ?_; exact (Kd.R_mono (Kd.R_far (p := ⟨gb850, 2, none⟩) (Kd.R_far (p := ⟨gb850, 1, none⟩) (Kd.R_far (p := ⟨gb850, 0, none⟩) (Kd.R_types HO848.out BK850.out (by decide)) (fun _ hk => hk.2) (.int .i64 t842)) (fun _ hk => hk.2) (.slice Ao68 t843.length co68)) (fun _ hk => hk.2) (.slice Ao69 t846.length co69)) (fun _ h_ => h_.1))) (Kd.R_base ho1) hb); replace BK819 := Aside0.mk (blk_below (g := gb819) (o := .cells #[.int .i64 t810, .slice Ao11 t811.length co11, .slice Ao12 t814.length co12] 41 (0, 0)) (bf BK819.out) hb); replace BK829 := Aside0.mk (blk_below (g := gb829) (o := .cells #[.int .i64 t820, .slice Ao17 t821.length co17, .slice Ao18 t824.length co18] 41 (0, 0)) (bf BK829.out) hb); replace BK839 := Aside0.mk (blk_below (g := gb839) (o := .cells #[.int .i64 t830, .slice Ao25 t831.length co25, .slice Ao26 t834.length co26] 41 (0, 0)) (bf BK839.out) hb); replace BK850 := Aside0.mk (blk_below (g := gb850) (o := .cells #[.int .i64 t842, .slice Ao68 t843.length co68, .slice Ao69 t846.length co69] 41 (0, 0)) (by refine bk ?_; refine blk_put (cs := #[.int .i64 t842, .slice Ao68 t843.length co68, .slice none 0 0]) ?_ 2 _ rfl; refine bk ?_; refine blk_put (cs := #[.int .i64 t842, .slice none 0 0, .slice none 0 0]) ?_ 1 _ rfl; refine bk ?_; refine blk_put (cs := #[.int .i64 0, .slice none 0 0, .slice none 0 0]) ?_ 0 _ rfl; refine bk ?_; exact BK850.out) hb); replace HB := Aside0.mk (below_step (bl HB.out) hb); (try clear hb); (try clear hb2); (try clear hk); (try clear hi); (try clear ho0); (try clear ho1)) | ((with_reducible refine gate_dst (N := 14) rfl ?_); refine bx (cs := #[.int .i64 0, .slice none 0 0, .slice none 0 0]) (t := 41) fun gb859 hg w71 hbox hb => ?_; replace HO_820001 := Aside0.mk (Kd.R_below (rk HO_820001.out) hb); replace HO_820002 := Aside0.mk (Kd.R_below (rk HO_820002.out) hb); replace HO_830001 := Aside0.mk (Kd.R_below (rk HO_830001.out) hb); replace HO_830002 := Aside0.mk (Kd.R_below (rk HO_830002.out) hb); replace HO_840001 := Aside0.mk (Kd.R_below (rk HO_840001.out) hb); replace HO_840002 := Aside0.mk (Kd.R_below (rk HO_840002.out) hb); replace HO845 := Aside0.mk (Kd.R_below (rk HO845.out) hb); replace HO848 := Aside0.mk (Kd.R_below (rk HO848.out) hb); replace HO854 := Aside0.mk (Kd.R_below (rk HO854.out) hb); replace HO857 := Aside0.mk (Kd.R_below (rk HO857.out) hb); have BK859 := Aside0.mk (hbox); have GW859 := Aside0.mk (gs HB.out hg); have GE859 := Aside0.mk (gs HB.out hg); replace HB := Aside0.mk (below_step (bl HB.out) hb); have NB819_859 := Aside0.mk ((nl BK819.out hg)); have NB859_819 := Aside0.mk ((ng BK819.out hg)); replace BK819 := Aside0.mk (bb BK819.out hb); have NB829_859 := Aside0.mk ((nl BK829.out hg)); have NB859_829 := Aside0.mk ((ng BK829.out hg)); replace BK829 := Aside0.mk (bb BK829.out hb); have NB839_859 := Aside0.mk ((nl BK839.out hg)); have NB859_839 := Aside0.mk ((ng BK839.out hg)); replace BK839 := Aside0.mk (bb BK839.out hb); have NB850_859 := Aside0.mk ((nl BK850.out hg)); have NB859_850 := Aside0.mk ((ng BK850.out hg)); replace BK850 := Aside0.mk (bb BK850.out hb); clear hb hbox hg; have hnb72 := NB859_819.out; have hnc72 := NB819_859.out; have hnb73 := NB859_829.out; have hnc73 := NB829_859.out; have hnb74 := NB859_839.out; have hnc74 := NB839_859.out; have hnb75 := NB859_850.out; have hnc75 := NB850_859.out; obtain ⟨hcz76_0, hcz76_1, hcz76_2, hfz76_0, hfz76_1, hfz76_2⟩ := cz3 BK859.out; obtain ⟨Ao77, co77, eo77⟩ := Kd.R_slice HO854.out; subst eo77; obtain ⟨Ao78, co78, eo78⟩ := Kd.R_slice HO857.out; subst eo78; have hnb79 := NB819_829.out; have hnc79 := NB829_819.out; obtain ⟨hcz80_0, hcz80_1, hcz80_2, hfz80_0, hfz80_1, hfz80_2⟩ := cz3 BK819.out) | ((with_reducible refine gate_callee (f := 33) rfl ?_); refine goesL_ (some 80) rfl rfl Try.func33 (by kernel_rfl) rfl #[.agg #[.int .i64 t810, .slice Ao11 t811.length co11, .slice Ao12 t814.length co12], .int .i64 t818] rfl mapd ?_; (with_reducible refine (impl_FitOf.calls kj6 t810 _ _ t811 _ _ t814 t818 t860 t861 t862 true _ ?side1 ?side2 ?side3 ?side4 A40.out).mono ?_); (case side1 => refine (Kd.R_reads' (e := 3) (base := w.heap.size) (ok := fun k_ => (((some k_ ≠ (.slice Ao17 t821.length co17 : Value).ownBlock ∧ some k_ ≠ (.slice Ao25 t831.length co25 : Value).ownBlock) ∧ some k_ ≠ (.slice Ao68 t843.length co68 : Value).ownBlock) ∧ some k_ ≠ (.slice Ao77 t852.length co77 : Value).ownBlock)) (n := t811.length) (c := co11) ?_).2.2; exact (by refine rk ?_; exact (Kd.R_mono (Kd.R_far (p := ⟨gb859, 2, none⟩) (Kd.R_far (p := ⟨gb859, 1, none⟩) (Kd.R_far (p := ⟨gb859, 0, none⟩) (Kd.R_types HO_820001.out BK859.out (by decide)) (fun _ hk => hk.2) (.int .i64 t851)) (fun _ hk => hk.2) (.slice Ao77 t852.length co77)) (fun _ hk => hk.2) (.slice Ao78 t855.length co78)) (fun _ h_ => h_.1)))); (case side2 => exact (Kd.R_reads' HO_820001.out).2.1); (case side3 => refine (Kd.R_reads' (e := 98) (base := w.heap.size) (ok := fun k_ => (((some k_ ≠ (.slice Ao18 t824.length co18 : Value).ownBlock ∧ some k_ ≠ (.slice Ao26 t834.length co26 : Value).ownBlock) ∧ some k_ ≠ (.slice Ao69 t846.length co69 : Value).ownBlock) ∧ some k_ ≠ (.slice Ao78 t855.length co78 : Value).ownBlock)) (n := t814.length) (c := co12) ?_).2.2; exact (by refine rk ?_; exact (Kd.R_mono (Kd.R_far (p := ⟨gb859, 2, none⟩) (Kd.R_far (p := ⟨gb859, 1, none⟩) (Kd.R_far (p := ⟨gb859, 0, none⟩) (Kd.R_types HO_820002.out BK859.out (by decide)) (fun _ hk => hk.2) (.int .i64 t851)) (fun _ hk => hk.2) (.slice Ao77 t852.length co77)) (fun _ hk => hk.2) (.slice Ao78 t855.length co78)) (fun _ h_ => h_.1)))); (case side4 => exact (Kd.R_reads' HO_820002.out).2.1); rintro e w81 ⟨rfl, hb⟩; refine ⟨_, rfl, ?_⟩; replace HO_820001 := Aside0.mk (Kd.R_below (by refine rk ?_; exact (Kd.R_mono (Kd.R_far (p := ⟨gb859, 2, none⟩) (Kd.R_far (p := ⟨gb859, 1, none⟩) (Kd.R_far (p := ⟨gb859, 0, none⟩) (Kd.R_types HO_820001.out BK859.out (by decide)) (fun _ hk => hk.2) (.int .i64 t851)) (fun _ hk => hk.2) (.slice Ao77 t852.length co77)) (fun _ hk => hk.2) (.slice Ao78 t855.length co78)) (fun _ h_ => h_.1))) hb); replace HO_820002 := Aside0.mk (Kd.R_below (by refine rk ?_; exact (Kd.R_mono (Kd.R_far (p := ⟨gb859, 2, none⟩) (Kd.R_far (p := ⟨gb859, 1, none⟩) (Kd.R_far (p := ⟨gb859, 0, none⟩) (Kd.R_types HO_820002.out BK859.out (by decide)) (fun _ hk => hk.2) (.int .i64 t851)) (fun _ hk => hk.2) (.slice Ao77 t852.length co77)) (fun _ hk => hk.2) (.slice Ao78 t855.length co78)) (fun _ h_ => h_.1))) hb); replace HO_830001 := Aside0.mk (Kd.R_below (by refine rk ?_; exact (Kd.R_mono (Kd.R_far (p := ⟨gb859, 2, none⟩) (Kd.R_far (p := ⟨gb859, 1, none⟩) (Kd.R_far (p := ⟨gb859, 0, none⟩) (Kd.R_types HO_830001.out BK859.out (by decide)) (fun _ hk => hk.2) (.int .i64 t851)) (fun _ hk => hk.2) (.slice Ao77 t852.length co77)) (fun _ hk => hk.2) (.slice Ao78 t855.length co78)) (fun _ h_ => h_.1))) hb); replace HO_830002 := Aside0.mk (Kd.R_below (by refine rk ?_; exact (Kd.R_mono (Kd.R_far (p := ⟨gb859, 2, none⟩) (Kd.R_far (p := ⟨gb859, 1, none⟩) (Kd.R_far (p := ⟨gb859, 0, none⟩) (Kd.R_types HO_830002.out BK859.out (by decide)) (fun _ hk => hk.2) (.int .i64 t851)) (fun _ hk => hk.2) (.slice Ao77 t852.length co77)) (fun _ hk => hk.2) (.slice Ao78 t855.length co78)) (fun _ h_ => h_.1))) hb); replace HO_840001 := Aside0.mk (Kd.R_below (by refine rk ?_; exact (Kd.R_mono (Kd.R_far (p := ⟨gb859, 2, none⟩) (Kd.R_far (p := ⟨gb859, 1, none⟩) (Kd.R_far (p := ⟨gb859, 0, none⟩) (Kd.R_types HO_840001.out BK859.out (by decide)) (fun _ hk => hk.2) (.int .i64 t851)) (fun _ hk => hk.2) (.slice Ao77 t852.length co77)) (fun _ hk => hk.2) (.slice Ao78 t855.length co78)) (fun _ h_ => h_.1))) hb); replace HO_840002 := Aside0.mk (Kd.R_below (by refine rk ?_; exact (Kd.R_mono (Kd.R_far (p := ⟨gb859, 2, none⟩) (Kd.R_far (p := ⟨gb859, 1, none⟩) (Kd.R_far (p := ⟨gb859, 0, none⟩) (Kd.R_types HO_840002.out BK859.out (by decide)) (fun _ hk => hk.2) (.int .i64 t851)) (fun _ hk => hk.2) (.slice Ao77 t852.length co77)) (fun _ hk => hk.2) (.slice Ao78 t855.length co78)) (fun _ h_ => h_.1))) hb); replace HO845 := Aside0.mk (Kd.R_below (by refine rk ?_; exact (Kd.R_mono (Kd.R_far (p := ⟨gb859, 2, none⟩) (Kd.R_far (p := ⟨gb859, 1, none⟩) (Kd.R_far (p := ⟨gb859, 0, none⟩) (Kd.R_types HO845.out BK859.out (by decide)) (fun _ hk => hk.2) (.int .i64 t851)) (fun _ hk => hk.2) (.slice Ao77 t852.length co77)) (fun _ hk => hk.2) (.slice Ao78 t855.length co78)) (fun _ h_ => h_.1))) hb); replace HO848 := Aside0.mk (Kd.R_below (by refine rk ?_; exact (Kd.R_mono (Kd.R_far (p := ⟨gb859, 2, none⟩) (Kd.R_far (p := ⟨gb859, 1, none⟩) (Kd.R_far (p := ⟨gb859, 0, none⟩) (Kd.R_types HO848.out BK859.out (by decide)) (fun _ hk => hk.2) (.int .i64 t851)) (fun _ hk => hk.2) (.slice Ao77 t852.length co77)) (fun _ hk => hk.2) (.slice Ao78 t855.length co78)) (fun _ h_ => h_.1))) hb); replace HO854 := Aside0.mk (Kd.R_below (by refine rk ?_; exact (Kd.R_mono (Kd.R_far (p := ⟨gb859, 2, none⟩) (Kd.R_far (p := ⟨gb859, 1, none⟩) (Kd.R_far (p := ⟨gb859, 0, none⟩) (Kd.R_types HO854.out BK859.out (by decide)) (fun _ hk => hk.2) (.int .i64 t851)) (fun _ hk => hk.2) (.slice Ao77 t852.length co77)) (fun _ hk => hk.2) (.slice Ao78 t855.length co78)) (fun _ h_ => h_.1))) hb); replace HO857 := Aside0.mk (Kd.R_below (by refine rk ?_; exact (Kd.R_mono (Kd.R_far (p := ⟨gb859, 2, none⟩) (Kd.R_far (p := ⟨gb859, 1, none⟩) (Kd.R_far (p := ⟨gb859, 0, none⟩) (Kd.R_types HO857.out BK859.out (by decide)) (fun _ hk => hk.2) (.int .i64 t851)) (fun _ hk => hk.2) (.slice Ao77 t852.length co77)) (fun _ hk => hk.2) (.slice Ao78 t855.length co78)) (fun _ h_ => h_.1))) hb); replace BK819 := Aside0.mk (blk_below (g := gb819) (o := .cells #[.int .i64 t810, .slice Ao11 t811.length co11, .slice Ao12 t814.length co12] 41 (0, 0)) (bf BK819.out) hb); replace BK829 := Aside0.mk (blk_below (g := gb829) (o := .cells #[.int .i64 t820, .slice Ao17 t821.length co17, .slice Ao18 t824.length co18] 41 (0, 0)) (bf BK829.out) hb); replace BK839 := Aside0.mk (blk_below (g := gb839) (o := .cells #[.int .i64 t830, .slice Ao25 t831.length co25, .slice Ao26 t834.length co26] 41 (0, 0)) (bf BK839.out) hb); replace BK850 := Aside0.mk (blk_below (g := gb850) (o := .cells #[.int .i64 t842, .slice Ao68 t843.length co68, .slice Ao69 t846.length co69] 41 (0, 0)) (bf BK850.out) hb); replace BK859 := Aside0.mk (blk_below (g := gb859) (o := .cells #[.int .i64 t851, .slice Ao77 t852.length co77, .slice Ao78 t855.length co78] 41 (0, 0)) (by refine bk ?_; refine blk_put (cs := #[.int .i64 t851, .slice Ao77 t852.length co77, .slice none 0 0]) ?_ 2 _ rfl; refine bk ?_; refine blk_put (cs := #[.int .i64 t851, .slice none 0 0, .slice none 0 0]) ?_ 1 _ rfl; refine bk ?_; refine blk_put (cs := #[.int .i64 0, .slice none 0 0, .slice none 0 0]) ?_ 0 _ rfl; refine bk ?_; exact BK859.out) hb); replace HB := Aside0.mk (below_step (bl HB.out) hb); (try clear hb); (try clear hb2); (try clear hk); (try clear hi)) | ((with_reducible refine gate_dst (N := 16) rfl ?_); refine bx (cs := #[.int .i64 0, .int .i64 0, .int .i64 0]) (t := 50) fun gb864 hg w82 hbox hb => ?_; replace HO_820001 := Aside0.mk (Kd.R_below (rk HO_820001.out) hb); replace HO_820002 := Aside0.mk (Kd.R_below (rk HO_820002.out) hb); replace HO_830001 := Aside0.mk (Kd.R_below (rk HO_830001.out) hb); replace HO_830002 := Aside0.mk (Kd.R_below (rk HO_830002.out) hb); replace HO_840001 := Aside0.mk (Kd.R_below (rk HO_840001.out) hb); replace HO_840002 := Aside0.mk (Kd.R_below (rk HO_840002.out) hb); replace HO845 := Aside0.mk (Kd.R_below (rk HO845.out) hb); replace HO848 := Aside0.mk (Kd.R_below (rk HO848.out) hb); replace HO854 := Aside0.mk (Kd.R_below (rk HO854.out) hb); replace HO857 := Aside0.mk (Kd.R_below (rk HO857.out) hb); have BK864 := Aside0.mk (hbox); have GW864 := Aside0.mk (gs HB.out hg); have GE864 := Aside0.mk (gs HB.out hg); replace HB := Aside0.mk (below_step (bl HB.out) hb); have NB819_864 := Aside0.mk ((nl BK819.out hg)); have NB864_819 := Aside0.mk ((ng BK819.out hg)); replace BK819 := Aside0.mk (bb BK819.out hb); have NB829_864 := Aside0.mk ((nl BK829.out hg)); have NB864_829 := Aside0.mk ((ng BK829.out hg)); replace BK829 := Aside0.mk (bb BK829.out hb); have NB839_864 := Aside0.mk ((nl BK839.out hg)); have NB864_839 := Aside0.mk ((ng BK839.out hg)); replace BK839 := Aside0.mk (bb BK839.out hb); have NB850_864 := Aside0.mk ((nl BK850.out hg)); have NB864_850 := Aside0.mk ((ng BK850.out hg)); replace BK850 := Aside0.mk (bb BK850.out hb); have NB859_864 := Aside0.mk ((nl BK859.out hg)); have NB864_859 := Aside0.mk ((ng BK859.out hg)); replace BK859 := Aside0.mk (bb BK859.out hb); clear hb hbox hg; have hnb83 := NB864_819.out; have hnc83 := NB819_864.out; have hnb84 := NB864_829.out; have hnc84 := NB829_864.out; have hnb85 := NB864_839.out; have hnc85 := NB839_864.out; have hnb86 := NB864_850.out; have hnc86 := NB850_864.out; have hnb87 := NB864_859.out; have hnc87 := NB859_864.out; obtain ⟨hcz88_0, hcz88_1, hcz88_2, hfz88_0, hfz88_1, hfz88_2⟩ := cz3 BK864.out))
              have n0_ : Aside0 (Kd.R (Kd.int .i64) 3 (((w82.setCell ⟨gb864, 0, none⟩ (.int .i64 t860)).setCell ⟨gb864, 1, none⟩ (.int .i64 t861)).setCell ⟨gb864, 2, none⟩ (.int .i64 t862)) w.heap.size (fun k_ => some k_ ≠ (.slice Ao17 t821.length co17 : Value).ownBlock ∧ some k_ ≠ (.slice Ao25 t831.length co25 : Value).ownBlock ∧ some k_ ≠ (.slice Ao68 t843.length co68 : Value).ownBlock ∧ some k_ ≠ (.slice Ao77 t852.length co77 : Value).ownBlock) (.slice Ao11 t811.length co11) t811) := ⟨by refine rk ?_; exact Kd.R_mono (Kd.R_far (p := ⟨gb864, 2, none⟩) (Kd.R_far (p := ⟨gb864, 1, none⟩) (Kd.R_far (p := ⟨gb864, 0, none⟩) (Kd.R_types HO_820001.out BK864.out (by decide)) (fun _ hk => hk.2) (.int .i64 t860)) (fun _ hk => hk.2) (.int .i64 t861)) (fun _ hk => hk.2) (.int .i64 t862)) (fun _ hk => ⟨hk.1.1.1.1, ⟨hk.1.1.1.2, ⟨hk.1.1.2, hk.1.2⟩⟩⟩)⟩
              have n1_ : Aside0 (Kd.R k98 98 (((w82.setCell ⟨gb864, 0, none⟩ (.int .i64 t860)).setCell ⟨gb864, 1, none⟩ (.int .i64 t861)).setCell ⟨gb864, 2, none⟩ (.int .i64 t862)) w.heap.size (fun k_ => some k_ ≠ (.slice Ao18 t824.length co18 : Value).ownBlock ∧ some k_ ≠ (.slice Ao26 t834.length co26 : Value).ownBlock ∧ some k_ ≠ (.slice Ao69 t846.length co69 : Value).ownBlock ∧ some k_ ≠ (.slice Ao78 t855.length co78 : Value).ownBlock) (.slice Ao12 t814.length co12) t814) := ⟨by refine rk ?_; exact Kd.R_mono (Kd.R_far (p := ⟨gb864, 2, none⟩) (Kd.R_far (p := ⟨gb864, 1, none⟩) (Kd.R_far (p := ⟨gb864, 0, none⟩) (Kd.R_types HO_820002.out BK864.out (by decide)) (fun _ hk => hk.2) (.int .i64 t860)) (fun _ hk => hk.2) (.int .i64 t861)) (fun _ hk => hk.2) (.int .i64 t862)) (fun _ hk => ⟨hk.1.1.1.1, ⟨hk.1.1.1.2, ⟨hk.1.1.2, hk.1.2⟩⟩⟩)⟩
              have n2_ : Aside0 (Kd.R (Kd.int .i64) 3 (((w82.setCell ⟨gb864, 0, none⟩ (.int .i64 t860)).setCell ⟨gb864, 1, none⟩ (.int .i64 t861)).setCell ⟨gb864, 2, none⟩ (.int .i64 t862)) w.heap.size (fun k_ => some k_ ≠ (.slice Ao11 t811.length co11 : Value).ownBlock ∧ some k_ ≠ (.slice Ao25 t831.length co25 : Value).ownBlock ∧ some k_ ≠ (.slice Ao68 t843.length co68 : Value).ownBlock ∧ some k_ ≠ (.slice Ao77 t852.length co77 : Value).ownBlock) (.slice Ao17 t821.length co17) t821) := ⟨by refine rk ?_; exact Kd.R_mono (Kd.R_far (p := ⟨gb864, 2, none⟩) (Kd.R_far (p := ⟨gb864, 1, none⟩) (Kd.R_far (p := ⟨gb864, 0, none⟩) (Kd.R_types HO_830001.out BK864.out (by decide)) (fun _ hk => hk.2) (.int .i64 t860)) (fun _ hk => hk.2) (.int .i64 t861)) (fun _ hk => hk.2) (.int .i64 t862)) (fun _ hk => ⟨hk.1.1.1.1, ⟨hk.1.1.1.2, ⟨hk.1.1.2, hk.1.2⟩⟩⟩)⟩
              have n3_ : Aside0 (Kd.R k98 98 (((w82.setCell ⟨gb864, 0, none⟩ (.int .i64 t860)).setCell ⟨gb864, 1, none⟩ (.int .i64 t861)).setCell ⟨gb864, 2, none⟩ (.int .i64 t862)) w.heap.size (fun k_ => some k_ ≠ (.slice Ao12 t814.length co12 : Value).ownBlock ∧ some k_ ≠ (.slice Ao26 t834.length co26 : Value).ownBlock ∧ some k_ ≠ (.slice Ao69 t846.length co69 : Value).ownBlock ∧ some k_ ≠ (.slice Ao78 t855.length co78 : Value).ownBlock) (.slice Ao18 t824.length co18) t824) := ⟨by refine rk ?_; exact Kd.R_mono (Kd.R_far (p := ⟨gb864, 2, none⟩) (Kd.R_far (p := ⟨gb864, 1, none⟩) (Kd.R_far (p := ⟨gb864, 0, none⟩) (Kd.R_types HO_830002.out BK864.out (by decide)) (fun _ hk => hk.2) (.int .i64 t860)) (fun _ hk => hk.2) (.int .i64 t861)) (fun _ hk => hk.2) (.int .i64 t862)) (fun _ hk => ⟨hk.1.1.1.1, ⟨hk.1.1.1.2, ⟨hk.1.1.2, hk.1.2⟩⟩⟩)⟩
              have n4_ : Aside0 (Kd.R (Kd.int .i64) 3 (((w82.setCell ⟨gb864, 0, none⟩ (.int .i64 t860)).setCell ⟨gb864, 1, none⟩ (.int .i64 t861)).setCell ⟨gb864, 2, none⟩ (.int .i64 t862)) w.heap.size (fun k_ => some k_ ≠ (.slice Ao11 t811.length co11 : Value).ownBlock ∧ some k_ ≠ (.slice Ao17 t821.length co17 : Value).ownBlock ∧ some k_ ≠ (.slice Ao68 t843.length co68 : Value).ownBlock ∧ some k_ ≠ (.slice Ao77 t852.length co77 : Value).ownBlock) (.slice Ao25 t831.length co25) t831) := ⟨by refine rk ?_; exact Kd.R_mono (Kd.R_far (p := ⟨gb864, 2, none⟩) (Kd.R_far (p := ⟨gb864, 1, none⟩) (Kd.R_far (p := ⟨gb864, 0, none⟩) (Kd.R_types HO_840001.out BK864.out (by decide)) (fun _ hk => hk.2) (.int .i64 t860)) (fun _ hk => hk.2) (.int .i64 t861)) (fun _ hk => hk.2) (.int .i64 t862)) (fun _ hk => ⟨hk.1.1.1.1, ⟨hk.1.1.1.2, ⟨hk.1.1.2, hk.1.2⟩⟩⟩)⟩
              have n5_ : Aside0 (Kd.R k98 98 (((w82.setCell ⟨gb864, 0, none⟩ (.int .i64 t860)).setCell ⟨gb864, 1, none⟩ (.int .i64 t861)).setCell ⟨gb864, 2, none⟩ (.int .i64 t862)) w.heap.size (fun k_ => some k_ ≠ (.slice Ao12 t814.length co12 : Value).ownBlock ∧ some k_ ≠ (.slice Ao18 t824.length co18 : Value).ownBlock ∧ some k_ ≠ (.slice Ao69 t846.length co69 : Value).ownBlock ∧ some k_ ≠ (.slice Ao78 t855.length co78 : Value).ownBlock) (.slice Ao26 t834.length co26) t834) := ⟨by refine rk ?_; exact Kd.R_mono (Kd.R_far (p := ⟨gb864, 2, none⟩) (Kd.R_far (p := ⟨gb864, 1, none⟩) (Kd.R_far (p := ⟨gb864, 0, none⟩) (Kd.R_types HO_840002.out BK864.out (by decide)) (fun _ hk => hk.2) (.int .i64 t860)) (fun _ hk => hk.2) (.int .i64 t861)) (fun _ hk => hk.2) (.int .i64 t862)) (fun _ hk => ⟨hk.1.1.1.1, ⟨hk.1.1.1.2, ⟨hk.1.1.2, hk.1.2⟩⟩⟩)⟩
              have n6_ : Aside0 (Kd.R (Kd.int .i64) 3 (((w82.setCell ⟨gb864, 0, none⟩ (.int .i64 t860)).setCell ⟨gb864, 1, none⟩ (.int .i64 t861)).setCell ⟨gb864, 2, none⟩ (.int .i64 t862)) w.heap.size (fun k_ => some k_ ≠ (.slice Ao11 t811.length co11 : Value).ownBlock ∧ some k_ ≠ (.slice Ao17 t821.length co17 : Value).ownBlock ∧ some k_ ≠ (.slice Ao25 t831.length co25 : Value).ownBlock ∧ some k_ ≠ (.slice Ao77 t852.length co77 : Value).ownBlock) (.slice Ao68 t843.length co68) t843) := ⟨by refine rk ?_; exact Kd.R_mono (Kd.R_far (p := ⟨gb864, 2, none⟩) (Kd.R_far (p := ⟨gb864, 1, none⟩) (Kd.R_far (p := ⟨gb864, 0, none⟩) (Kd.R_types HO845.out BK864.out (by decide)) (fun _ hk => hk.2) (.int .i64 t860)) (fun _ hk => hk.2) (.int .i64 t861)) (fun _ hk => hk.2) (.int .i64 t862)) (fun _ hk => ⟨hk.1.1.1.1.2, ⟨hk.1.1.1.2, ⟨hk.1.1.2, hk.1.2⟩⟩⟩)⟩
              have n7_ : Aside0 (Kd.R k98 98 (((w82.setCell ⟨gb864, 0, none⟩ (.int .i64 t860)).setCell ⟨gb864, 1, none⟩ (.int .i64 t861)).setCell ⟨gb864, 2, none⟩ (.int .i64 t862)) w.heap.size (fun k_ => some k_ ≠ (.slice Ao12 t814.length co12 : Value).ownBlock ∧ some k_ ≠ (.slice Ao18 t824.length co18 : Value).ownBlock ∧ some k_ ≠ (.slice Ao26 t834.length co26 : Value).ownBlock ∧ some k_ ≠ (.slice Ao78 t855.length co78 : Value).ownBlock) (.slice Ao69 t846.length co69) t846) := ⟨by refine rk ?_; exact Kd.R_mono (Kd.R_far (p := ⟨gb864, 2, none⟩) (Kd.R_far (p := ⟨gb864, 1, none⟩) (Kd.R_far (p := ⟨gb864, 0, none⟩) (Kd.R_types HO848.out BK864.out (by decide)) (fun _ hk => hk.2) (.int .i64 t860)) (fun _ hk => hk.2) (.int .i64 t861)) (fun _ hk => hk.2) (.int .i64 t862)) (fun _ hk => ⟨hk.1.1.1.1.2, ⟨hk.1.1.1.2, ⟨hk.1.1.2, hk.1.2⟩⟩⟩)⟩
              have n8_ : Aside0 (Kd.R (Kd.int .i64) 3 (((w82.setCell ⟨gb864, 0, none⟩ (.int .i64 t860)).setCell ⟨gb864, 1, none⟩ (.int .i64 t861)).setCell ⟨gb864, 2, none⟩ (.int .i64 t862)) w.heap.size (fun k_ => some k_ ≠ (.slice Ao11 t811.length co11 : Value).ownBlock ∧ some k_ ≠ (.slice Ao17 t821.length co17 : Value).ownBlock ∧ some k_ ≠ (.slice Ao25 t831.length co25 : Value).ownBlock ∧ some k_ ≠ (.slice Ao68 t843.length co68 : Value).ownBlock) (.slice Ao77 t852.length co77) t852) := ⟨by refine rk ?_; exact Kd.R_mono (Kd.R_far (p := ⟨gb864, 2, none⟩) (Kd.R_far (p := ⟨gb864, 1, none⟩) (Kd.R_far (p := ⟨gb864, 0, none⟩) (Kd.R_types HO854.out BK864.out (by decide)) (fun _ hk => hk.2) (.int .i64 t860)) (fun _ hk => hk.2) (.int .i64 t861)) (fun _ hk => hk.2) (.int .i64 t862)) (fun _ hk => ⟨hk.1.1.1.1.2, ⟨hk.1.1.1.2, ⟨hk.1.1.2, hk.1.2⟩⟩⟩)⟩
              have n9_ : Aside0 (Kd.R k98 98 (((w82.setCell ⟨gb864, 0, none⟩ (.int .i64 t860)).setCell ⟨gb864, 1, none⟩ (.int .i64 t861)).setCell ⟨gb864, 2, none⟩ (.int .i64 t862)) w.heap.size (fun k_ => some k_ ≠ (.slice Ao12 t814.length co12 : Value).ownBlock ∧ some k_ ≠ (.slice Ao18 t824.length co18 : Value).ownBlock ∧ some k_ ≠ (.slice Ao26 t834.length co26 : Value).ownBlock ∧ some k_ ≠ (.slice Ao69 t846.length co69 : Value).ownBlock) (.slice Ao78 t855.length co78) t855) := ⟨by refine rk ?_; exact Kd.R_mono (Kd.R_far (p := ⟨gb864, 2, none⟩) (Kd.R_far (p := ⟨gb864, 1, none⟩) (Kd.R_far (p := ⟨gb864, 0, none⟩) (Kd.R_types HO857.out BK864.out (by decide)) (fun _ hk => hk.2) (.int .i64 t860)) (fun _ hk => hk.2) (.int .i64 t861)) (fun _ hk => hk.2) (.int .i64 t862)) (fun _ hk => ⟨hk.1.1.1.1.2, ⟨hk.1.1.1.2, ⟨hk.1.1.2, hk.1.2⟩⟩⟩)⟩
              have n10_ : Aside0 ((((w82.setCell ⟨gb864, 0, none⟩ (.int .i64 t860)).setCell ⟨gb864, 1, none⟩ (.int .i64 t861)).setCell ⟨gb864, 2, none⟩ (.int .i64 t862)).heap[gb819]? = some (.cells #[.int .i64 t810, .slice Ao11 t811.length co11, .slice Ao12 t814.length co12] 41 (0, 0))) := ⟨by refine bk ?_; refine blk_far ?_ NB819_864.out _; refine bk ?_; refine blk_far ?_ NB819_864.out _; refine bk ?_; refine blk_far ?_ NB819_864.out _; refine bk ?_; exact BK819.out⟩
              have n11_ : Aside0 ((((w82.setCell ⟨gb864, 0, none⟩ (.int .i64 t860)).setCell ⟨gb864, 1, none⟩ (.int .i64 t861)).setCell ⟨gb864, 2, none⟩ (.int .i64 t862)).heap[gb829]? = some (.cells #[.int .i64 t820, .slice Ao17 t821.length co17, .slice Ao18 t824.length co18] 41 (0, 0))) := ⟨by refine bk ?_; refine blk_far ?_ NB829_864.out _; refine bk ?_; refine blk_far ?_ NB829_864.out _; refine bk ?_; refine blk_far ?_ NB829_864.out _; refine bk ?_; exact BK829.out⟩
              have n12_ : Aside0 ((((w82.setCell ⟨gb864, 0, none⟩ (.int .i64 t860)).setCell ⟨gb864, 1, none⟩ (.int .i64 t861)).setCell ⟨gb864, 2, none⟩ (.int .i64 t862)).heap[gb839]? = some (.cells #[.int .i64 t830, .slice Ao25 t831.length co25, .slice Ao26 t834.length co26] 41 (0, 0))) := ⟨by refine bk ?_; refine blk_far ?_ NB839_864.out _; refine bk ?_; refine blk_far ?_ NB839_864.out _; refine bk ?_; refine blk_far ?_ NB839_864.out _; refine bk ?_; exact BK839.out⟩
              have n13_ : Aside0 ((((w82.setCell ⟨gb864, 0, none⟩ (.int .i64 t860)).setCell ⟨gb864, 1, none⟩ (.int .i64 t861)).setCell ⟨gb864, 2, none⟩ (.int .i64 t862)).heap[gb850]? = some (.cells #[.int .i64 t842, .slice Ao68 t843.length co68, .slice Ao69 t846.length co69] 41 (0, 0))) := ⟨by refine bk ?_; refine blk_far ?_ NB850_864.out _; refine bk ?_; refine blk_far ?_ NB850_864.out _; refine bk ?_; refine blk_far ?_ NB850_864.out _; refine bk ?_; exact BK850.out⟩
              have n14_ : Aside0 ((((w82.setCell ⟨gb864, 0, none⟩ (.int .i64 t860)).setCell ⟨gb864, 1, none⟩ (.int .i64 t861)).setCell ⟨gb864, 2, none⟩ (.int .i64 t862)).heap[gb859]? = some (.cells #[.int .i64 t851, .slice Ao77 t852.length co77, .slice Ao78 t855.length co78] 41 (0, 0))) := ⟨by refine bk ?_; refine blk_far ?_ NB859_864.out _; refine bk ?_; refine blk_far ?_ NB859_864.out _; refine bk ?_; refine blk_far ?_ NB859_864.out _; refine bk ?_; exact BK859.out⟩
              have n15_ : Aside0 ((((w82.setCell ⟨gb864, 0, none⟩ (.int .i64 t860)).setCell ⟨gb864, 1, none⟩ (.int .i64 t861)).setCell ⟨gb864, 2, none⟩ (.int .i64 t862)).heap[gb864]? = some (.cells #[.int .i64 t860, .int .i64 t861, .int .i64 t862] 50 (0, 0))) := ⟨by refine bk ?_; refine blk_put (cs := #[.int .i64 t860, .int .i64 t861, .int .i64 0]) ?_ 2 _ rfl; refine bk ?_; refine blk_put (cs := #[.int .i64 t860, .int .i64 0, .int .i64 0]) ?_ 1 _ rfl; refine bk ?_; refine blk_put (cs := #[.int .i64 0, .int .i64 0, .int .i64 0]) ?_ 0 _ rfl; refine bk ?_; exact BK864.out⟩
              have n16_ : Aside0 (Below w.heap.size w (((w82.setCell ⟨gb864, 0, none⟩ (.int .i64 t860)).setCell ⟨gb864, 1, none⟩ (.int .i64 t861)).setCell ⟨gb864, 2, none⟩ (.int .i64 t862))) := ⟨bl HB.out⟩
              (try clear HO_820001)
              (try clear HO_820002)
              (try clear HO_830001)
              (try clear HO_830002)
              (try clear HO_840001)
              (try clear HO_840002)
              (try clear HO845)
              (try clear HO848)
              (try clear HO854)
              (try clear HO857)
              (try clear BK819)
              (try clear BK829)
              (try clear BK839)
              (try clear BK850)
              (try clear BK859)
              (try clear BK864)
              (try clear HB)
              generalize (((w82.setCell ⟨gb864, 0, none⟩ (.int .i64 t860)).setCell ⟨gb864, 1, none⟩ (.int .i64 t861)).setCell ⟨gb864, 2, none⟩ (.int .i64 t862)) = w89 at n0_ n1_ n2_ n3_ n4_ n5_ n6_ n7_ n8_ n9_ n10_ n11_ n12_ n13_ n14_ n15_ n16_ ⊢
              have HO_820001 := n0_
              have HO_820002 := n1_
              have HO_830001 := n2_
              have HO_830002 := n3_
              have HO_840001 := n4_
              have HO_840002 := n5_
              have HO845 := n6_
              have HO848 := n7_
              have HO854 := n8_
              have HO857 := n9_
              have BK819 := n10_
              have BK829 := n11_
              have BK839 := n12_
              have BK850 := n13_
              have BK859 := n14_
              have BK864 := n15_
              have HB := n16_
              clear n0_ n1_ n2_ n3_ n4_ n5_ n6_ n7_ n8_ n9_ n10_ n11_ n12_ n13_ n14_ n15_ n16_
              replace HO_820001 := Aside0.mk (Kd.R_drew HO_820001.out)
              replace HO_820002 := Aside0.mk (Kd.R_drew HO_820002.out)
              replace HO_830001 := Aside0.mk (Kd.R_drew HO_830001.out)
              replace HO_830002 := Aside0.mk (Kd.R_drew HO_830002.out)
              replace HO_840001 := Aside0.mk (Kd.R_drew HO_840001.out)
              replace HO_840002 := Aside0.mk (Kd.R_drew HO_840002.out)
              replace HO845 := Aside0.mk (Kd.R_drew HO845.out)
              replace HO848 := Aside0.mk (Kd.R_drew HO848.out)
              replace HO854 := Aside0.mk (Kd.R_drew HO854.out)
              replace HO857 := Aside0.mk (Kd.R_drew HO857.out)
              replace BK819 := Aside0.mk (blk_drew BK819.out)
              replace BK829 := Aside0.mk (blk_drew BK829.out)
              replace BK839 := Aside0.mk (blk_drew BK839.out)
              replace BK850 := Aside0.mk (blk_drew BK850.out)
              replace BK859 := Aside0.mk (blk_drew BK859.out)
              replace BK864 := Aside0.mk (blk_drew BK864.out)
              replace HB := Aside0.mk (below_drew1 HB.out)
              refine start_ (n := 49) (S := fun w' => w'.cell? ⟨gb839, 0, none⟩ = some (.int .i64 t830) ∧ w'.cell? ⟨gb839, 1, none⟩ = some (.slice Ao25 t831.length co25) ∧ w'.cell? ⟨gb839, 2, none⟩ = some (.slice Ao26 t834.length co26) ∧ w'.cell? ⟨gb850, 0, none⟩ = some (.int .i64 t842) ∧ w'.cell? ⟨gb850, 1, none⟩ = some (.slice Ao68 t843.length co68) ∧ w'.cell? ⟨gb850, 2, none⟩ = some (.slice Ao69 t846.length co69) ∧ w'.cell? ⟨gb864, 0, none⟩ = some (.int .i64 t860) ∧ w'.cell? ⟨gb864, 1, none⟩ = some (.int .i64 t861) ∧ w'.cell? ⟨gb864, 2, none⟩ = some (.int .i64 t862) ∧ w'.cell? ⟨gb819, 0, none⟩ = some (.int .i64 t810) ∧ w'.cell? ⟨gb819, 1, none⟩ = some (.slice Ao11 t811.length co11) ∧ w'.cell? ⟨gb819, 2, none⟩ = some (.slice Ao12 t814.length co12)) (ds := []) #[false, false, false, false, false, false, false, false, false, false, false, false, false, false, false, false, false, false, false, false, false, false, false, false, false, false, false, false, false, false, false, false, false, false, false, false, false, false, false, false, false, false, false, false, false, false, false, false, false] (by kernel_rfl) rfl rfl ⟨bc BK839 0, bc BK839 1, bc BK839 2, bc BK850 0, bc BK850 1, bc BK850 2, bc BK864 0, bc BK864 1, bc BK864 2, bc BK819 0, bc BK819 1, bc BK819 2⟩ (fun hHeld => ?_); refine with_tabW laws_FnBoxes.tab13 laws_FnBoxes.bits13 (fun HT_ HW_ => ?_)
              generalize w89.drew = w90 at HO_820001 HO_820002 HO_830001 HO_830002 HO_840001 HO_840002 HO845 HO848 HO854 HO857 BK819 BK829 BK839 BK850 BK859 BK864 HB hHeld ⊢
              refine tkA12 (i := 0) (N := some 83) HT_.out HW_.out hHeld ?_
              refine onA (i := 1) (N := some 84) HT_.out (fun K hK => ?_)
              refine goes_ Try.func34 (by kernel_rfl) rfl #[.agg #[.int .i64 t830, .slice Ao25 t831.length co25, .slice Ao26 t834.length co26]] (by rfl) rfl rfl mapd ?_
              with_reducible refine (impl_ColumnOk.calls t830 _ _ t831 _ _ t834 true _ ?side1 ?side2 ?side3 ?side4 A41.out).mono ?_
              (case side1 => exact cb ((Kd.R_reads' HO_840001.out).2.2))
              (case side2 => exact (Kd.R_reads' HO_840001.out).2.1)
              (case side3 => exact cb ((Kd.R_reads' HO_840002.out).2.2))
              (case side4 => exact (Kd.R_reads' HO_840002.out).2.1)
              rintro e w91 ⟨rfl, hb⟩
              refine ⟨_, rfl, ?_⟩
              replace HO_820001 := Aside0.mk (Kd.R_below (rk HO_820001.out) hb)
              replace HO_820002 := Aside0.mk (Kd.R_below (rk HO_820002.out) hb)
              replace HO_830001 := Aside0.mk (Kd.R_below (rk HO_830001.out) hb)
              replace HO_830002 := Aside0.mk (Kd.R_below (rk HO_830002.out) hb)
              replace HO_840001 := Aside0.mk (Kd.R_below (rk HO_840001.out) hb)
              replace HO_840002 := Aside0.mk (Kd.R_below (rk HO_840002.out) hb)
              replace HO845 := Aside0.mk (Kd.R_below (rk HO845.out) hb)
              replace HO848 := Aside0.mk (Kd.R_below (rk HO848.out) hb)
              replace HO854 := Aside0.mk (Kd.R_below (rk HO854.out) hb)
              replace HO857 := Aside0.mk (Kd.R_below (rk HO857.out) hb)
              replace BK819 := Aside0.mk (bb BK819.out hb)
              replace BK829 := Aside0.mk (bb BK829.out hb)
              replace BK839 := Aside0.mk (bb BK839.out hb)
              replace BK850 := Aside0.mk (bb BK850.out hb)
              replace BK859 := Aside0.mk (bb BK859.out hb)
              replace BK864 := Aside0.mk (bb BK864.out hb)
              replace HB := Aside0.mk (below_step (bl HB.out) hb)
              (try clear hb)
              (try clear hb2)
              (try clear hk)
              (try clear hi)
              refine hK.out _ _ ⟨bc BK839 0, bc BK839 1, bc BK839 2, bc BK850 0, bc BK850 1, bc BK850 2, bc BK864 0, bc BK864 1, bc BK864 2, bc BK819 0, bc BK819 1, bc BK819 2⟩ (fun hHeld => ?_)
              clear hK K
              refine norm_ (a' := ?_) ?_ ?_
              rotate_left
              ·show Act.put _ (some 84) _ = _
               simp only [Act.put, List.setIfInBounds_toArray, List.set_cons_zero, List.set_cons_succ, i64_w, i32_w]
               rfl
              refine puA (i := 2) (N := some 85) HT_.out ?_
              refine puA (i := 3) (N := some 86) HT_.out ?_
              refine puA (i := 4) (N := some 87) HT_.out ?_
              refine puA (i := 5) (N := some 88) HT_.out ?_
              refine puA (i := 6) (N := some 89) HT_.out ?_
              refine puA (i := 7) (N := some 90) HT_.out ?_
              refine puA (i := 8) (N := some 91) HT_.out ?_
              refine puA (i := 9) (N := some 92) HT_.out ?_
              refine tkA12 (i := 10) (N := some 93) HT_.out HW_.out hHeld ?_
              refine onA (i := 11) (N := some 94) HT_.out (fun K hK => ?_)
              refine goes_ Try.func34 (by kernel_rfl) rfl #[.agg #[.int .i64 t842, .slice Ao68 t843.length co68, .slice Ao69 t846.length co69]] (by rfl) rfl rfl mapd ?_
              with_reducible refine (impl_ColumnOk.calls t842 _ _ t843 _ _ t846 true _ ?side1 ?side2 ?side3 ?side4 A45.out).mono ?_
              (case side1 => exact cb ((Kd.R_reads' HO845.out).2.2))
              (case side2 => exact (Kd.R_reads' HO845.out).2.1)
              (case side3 => exact cb ((Kd.R_reads' HO848.out).2.2))
              (case side4 => exact (Kd.R_reads' HO848.out).2.1)
              rintro e w92 ⟨rfl, hb⟩
              refine ⟨_, rfl, ?_⟩
              replace HO_820001 := Aside0.mk (Kd.R_below (rk HO_820001.out) hb)
              replace HO_820002 := Aside0.mk (Kd.R_below (rk HO_820002.out) hb)
              replace HO_830001 := Aside0.mk (Kd.R_below (rk HO_830001.out) hb)
              replace HO_830002 := Aside0.mk (Kd.R_below (rk HO_830002.out) hb)
              replace HO_840001 := Aside0.mk (Kd.R_below (rk HO_840001.out) hb)
              replace HO_840002 := Aside0.mk (Kd.R_below (rk HO_840002.out) hb)
              replace HO845 := Aside0.mk (Kd.R_below (rk HO845.out) hb)
              replace HO848 := Aside0.mk (Kd.R_below (rk HO848.out) hb)
              replace HO854 := Aside0.mk (Kd.R_below (rk HO854.out) hb)
              replace HO857 := Aside0.mk (Kd.R_below (rk HO857.out) hb)
              replace BK819 := Aside0.mk (bb BK819.out hb)
              replace BK829 := Aside0.mk (bb BK829.out hb)
              replace BK839 := Aside0.mk (bb BK839.out hb)
              replace BK850 := Aside0.mk (bb BK850.out hb)
              replace BK859 := Aside0.mk (bb BK859.out hb)
              replace BK864 := Aside0.mk (bb BK864.out hb)
              replace HB := Aside0.mk (below_step (bl HB.out) hb)
              (try clear hb)
              (try clear hb2)
              (try clear hk)
              (try clear hi)
              refine hK.out _ _ ⟨bc BK839 0, bc BK839 1, bc BK839 2, bc BK850 0, bc BK850 1, bc BK850 2, bc BK864 0, bc BK864 1, bc BK864 2, bc BK819 0, bc BK819 1, bc BK819 2⟩ (fun hHeld => ?_)
              clear hK K
              refine norm_ (a' := ?_) ?_ ?_
              rotate_left
              ·show Act.put _ (some 94) _ = _
               simp only [Act.put, List.setIfInBounds_toArray, List.set_cons_zero, List.set_cons_succ, i64_w, i32_w]
               rfl
              refine puA (i := 12) (N := some 95) HT_.out ?_
              refine puA (i := 13) (N := some 96) HT_.out ?_
              refine puA (i := 14) (N := some 97) HT_.out ?_
              refine puA (i := 15) (N := some 98) HT_.out ?_
              refine puA (i := 16) (N := some 99) HT_.out ?_
              refine puA (i := 17) (N := some 100) HT_.out ?_
              refine puA (i := 19) (N := some 102) HT_.out ?_
              refine tkA12 (i := 18) (N := some 101) HT_.out HW_.out hHeld ?_
              refine puA (i := 20) (N := some 103) HT_.out ?_
              refine puA (i := 21) (N := some 104) HT_.out ?_
              refine puA (i := 22) (N := some 105) HT_.out ?_
              refine puA (i := 23) (N := some 106) HT_.out ?_
              refine puA (i := 25) (N := some 108) HT_.out ?_
              refine tkA12 (i := 24) (N := some 107) HT_.out HW_.out hHeld ?_
              refine puA (i := 26) (N := some 109) HT_.out ?_
              refine puA (i := 27) (N := some 110) HT_.out ?_
              refine puA (i := 28) (N := some 111) HT_.out ?_
              refine puA (i := 35) (N := some 118) HT_.out ?_
              refine tkA12 (i := 29) (N := some 112) HT_.out HW_.out hHeld ?_
              refine tkA12 (i := 32) (N := some 115) HT_.out HW_.out hHeld ?_
              refine onA (i := 30) (N := some 113) HT_.out (fun K hK => ?_)
              refine goes_ Try.func36 (by kernel_rfl) rfl #[.agg #[.int .i64 t830, .slice Ao25 t831.length co25, .slice Ao26 t834.length co26]] (by rfl) rfl rfl mapd ?_
              with_reducible refine (spec_GapsOf.calls kj6 t830 _ _ t831 _ _ t834 t867 _ ?side1 ?side2 ?side3 ?side4 A50.out).mono ?_
              (case side1 => exact cb ((Kd.R_reads' HO_840001.out).2.2))
              (case side2 => exact (Kd.R_reads' HO_840001.out).2.1)
              (case side3 => exact cb ((Kd.R_reads' HO_840002.out).2.2))
              (case side4 => exact (Kd.R_reads' HO_840002.out).2.1)
              rintro e w93 ⟨v868, rfl, ho0, hb⟩
              refine ⟨_, rfl, ?_⟩
              replace HO_820001 := Aside0.mk (Kd.R_below (rk HO_820001.out) hb)
              replace HO_820002 := Aside0.mk (Kd.R_below (rk HO_820002.out) hb)
              replace HO_830001 := Aside0.mk (Kd.R_below (rk HO_830001.out) hb)
              replace HO_830002 := Aside0.mk (Kd.R_below (rk HO_830002.out) hb)
              replace HO_840001 := Aside0.mk (Kd.R_below (rk HO_840001.out) hb)
              replace HO_840002 := Aside0.mk (Kd.R_below (rk HO_840002.out) hb)
              replace HO845 := Aside0.mk (Kd.R_below (rk HO845.out) hb)
              replace HO848 := Aside0.mk (Kd.R_below (rk HO848.out) hb)
              replace HO854 := Aside0.mk (Kd.R_below (rk HO854.out) hb)
              replace HO857 := Aside0.mk (Kd.R_below (rk HO857.out) hb)
              have HO869 := Aside0.mk (Kd.R_lower (Kd.R_newB ho0 (g := gb864) (o := .cells #[.int .i64 t860, .int .i64 t861, .int .i64 t862] 50 (0, 0)) (bk BK864.out)) (below_size (bl HB.out)))
              replace BK819 := Aside0.mk (bb BK819.out hb)
              replace BK829 := Aside0.mk (bb BK829.out hb)
              replace BK839 := Aside0.mk (bb BK839.out hb)
              replace BK850 := Aside0.mk (bb BK850.out hb)
              replace BK859 := Aside0.mk (bb BK859.out hb)
              replace BK864 := Aside0.mk (bb BK864.out hb)
              replace HB := Aside0.mk (below_step (bl HB.out) hb)
              (try clear hb)
              (try clear hb2)
              (try clear hk)
              (try clear hi)
              (try clear ho0)
              obtain ⟨Ao94, co94, eo94⟩ := Kd.R_slice HO869.out
              (first | subst eo94 | (injection eo94 with f1_ f2_ f3_; have f4_ := f1_.symm; have f5_ := f3_.symm; clear f1_ f2_ f3_; subst f4_; subst f5_))
              refine hK.out _ _ ⟨bc BK839 0, bc BK839 1, bc BK839 2, bc BK850 0, bc BK850 1, bc BK850 2, bc BK864 0, bc BK864 1, bc BK864 2, bc BK819 0, bc BK819 1, bc BK819 2⟩ (fun hHeld => ?_)
              clear hK K
              refine norm_ (a' := ?_) ?_ ?_
              rotate_left
              ·show Act.put _ (some 113) _ = _
               simp only [Act.put, List.setIfInBounds_toArray, List.set_cons_zero, List.set_cons_succ, i64_w, i32_w]
               rfl
              refine onA (i := 31) (N := some 114) HT_.out (fun K hK => ?_)
              refine goes_ Try.func35 (by kernel_rfl) rfl #[.slice Ao94 t867.length co94] (by rfl) rfl rfl mapd ?_
              with_reducible refine (laws_room.calls kj6 _ _ t867 t870 _ ?side1 ?side2 A51.out).mono ?_
              (case side1 => exact cb ((Kd.R_reads' HO869.out).2.2))
              (case side2 => exact (Kd.R_reads' HO869.out).2.1)
              rintro e w' ⟨rfl, ⟨nd, rfl⟩⟩
              refine ⟨_, rfl, ?_⟩
              refine hK.out _ _ ⟨bc BK839 0, bc BK839 1, bc BK839 2, bc BK850 0, bc BK850 1, bc BK850 2, bc BK864 0, bc BK864 1, bc BK864 2, bc BK819 0, bc BK819 1, bc BK819 2⟩ (fun hHeld => ?_)
              clear hK K
              refine norm_ (a' := ?_) ?_ ?_
              rotate_left
              ·show Act.put _ (some 114) _ = _
               simp only [Act.put, List.setIfInBounds_toArray, List.set_cons_zero, List.set_cons_succ, i64_w, i32_w]
               rfl
              refine onA (i := 33) (N := some 116) HT_.out (fun K hK => ?_)
              refine goes_ Try.func36 (by kernel_rfl) rfl #[.agg #[.int .i64 t810, .slice Ao11 t811.length co11, .slice Ao12 t814.length co12]] (by rfl) rfl rfl mapd ?_
              with_reducible refine (spec_GapsOf.calls kj6 t810 _ _ t811 _ _ t814 t871 _ ?side1 ?side2 ?side3 ?side4 A52.out).mono ?_
              (case side1 => exact cb ((Kd.R_reads' HO_820001.out).2.2))
              (case side2 => exact (Kd.R_reads' HO_820001.out).2.1)
              (case side3 => exact cb ((Kd.R_reads' HO_820002.out).2.2))
              (case side4 => exact (Kd.R_reads' HO_820002.out).2.1)
              rintro e w95 ⟨v872, rfl, ho0, hb⟩
              refine ⟨_, rfl, ?_⟩
              replace HO_820001 := Aside0.mk (Kd.R_below (rk HO_820001.out) hb)
              replace HO_820002 := Aside0.mk (Kd.R_below (rk HO_820002.out) hb)
              replace HO_830001 := Aside0.mk (Kd.R_below (rk HO_830001.out) hb)
              replace HO_830002 := Aside0.mk (Kd.R_below (rk HO_830002.out) hb)
              replace HO_840001 := Aside0.mk (Kd.R_below (rk HO_840001.out) hb)
              replace HO_840002 := Aside0.mk (Kd.R_below (rk HO_840002.out) hb)
              replace HO845 := Aside0.mk (Kd.R_below (rk HO845.out) hb)
              replace HO848 := Aside0.mk (Kd.R_below (rk HO848.out) hb)
              replace HO854 := Aside0.mk (Kd.R_below (rk HO854.out) hb)
              replace HO857 := Aside0.mk (Kd.R_below (rk HO857.out) hb)
              have HO873 := Aside0.mk (Kd.R_lower (Kd.R_newB (Kd.R_new' ho0 (Kd.R_lt (rk HO869.out))) (g := gb864) (o := .cells #[.int .i64 t860, .int .i64 t861, .int .i64 t862] 50 (0, 0)) (bk BK864.out)) (below_size (bl HB.out)))
              replace HO869 := Aside0.mk (Kd.R_elder' (rk HO869.out) (Kd.R_base ho0) hb)
              replace BK819 := Aside0.mk (bb BK819.out hb)
              replace BK829 := Aside0.mk (bb BK829.out hb)
              replace BK839 := Aside0.mk (bb BK839.out hb)
              replace BK850 := Aside0.mk (bb BK850.out hb)
              replace BK859 := Aside0.mk (bb BK859.out hb)
              replace BK864 := Aside0.mk (bb BK864.out hb)
              replace HB := Aside0.mk (below_step (bl HB.out) hb)
              (try clear hb)
              (try clear hb2)
              (try clear hk)
              (try clear hi)
              (try clear ho0)
              obtain ⟨Ao96, co96, eo96⟩ := Kd.R_slice HO873.out
              (first | subst eo96 | (injection eo96 with f1_ f2_ f3_; have f4_ := f1_.symm; have f5_ := f3_.symm; clear f1_ f2_ f3_; subst f4_; subst f5_))
              refine hK.out _ _ ⟨bc BK839 0, bc BK839 1, bc BK839 2, bc BK850 0, bc BK850 1, bc BK850 2, bc BK864 0, bc BK864 1, bc BK864 2, bc BK819 0, bc BK819 1, bc BK819 2⟩ (fun hHeld => ?_)
              clear hK K
              refine norm_ (a' := ?_) ?_ ?_
              rotate_left
              ·show Act.put _ (some 116) _ = _
               simp only [Act.put, List.setIfInBounds_toArray, List.set_cons_zero, List.set_cons_succ, i64_w, i32_w]
               rfl
              refine onA (i := 34) (N := some 117) HT_.out (fun K hK => ?_)
              refine goes_ Try.func35 (by kernel_rfl) rfl #[.slice Ao96 t871.length co96] (by rfl) rfl rfl mapd ?_
              with_reducible refine (laws_room.calls kj6 _ _ t871 t874 _ ?side1 ?side2 A53.out).mono ?_
              (case side1 => exact cb ((Kd.R_reads' HO873.out).2.2))
              (case side2 => exact (Kd.R_reads' HO873.out).2.1)
              rintro e w' ⟨rfl, ⟨nd, rfl⟩⟩
              refine ⟨_, rfl, ?_⟩
              refine hK.out _ _ ⟨bc BK839 0, bc BK839 1, bc BK839 2, bc BK850 0, bc BK850 1, bc BK850 2, bc BK864 0, bc BK864 1, bc BK864 2, bc BK819 0, bc BK819 1, bc BK819 2⟩ (fun hHeld => ?_)
              clear hK K
              refine norm_ (a' := ?_) ?_ ?_
              rotate_left
              ·show Act.put _ (some 117) _ = _
               simp only [Act.put, List.setIfInBounds_toArray, List.set_cons_zero, List.set_cons_succ, i64_w, i32_w]
               rfl
              refine puA (i := 36) (N := some 119) HT_.out ?_
              refine puA (i := 37) (N := some 120) HT_.out ?_
              refine puA (i := 38) (N := some 121) HT_.out ?_
              refine puA (i := 39) (N := some 122) HT_.out ?_
              refine tkA12 (i := 40) (N := some 123) HT_.out HW_.out hHeld ?_
              refine tkA12 (i := 43) (N := some 126) HT_.out HW_.out hHeld ?_
              refine onA (i := 41) (N := some 124) HT_.out (fun K hK => ?_)
              refine goes_ Try.func36 (by kernel_rfl) rfl #[.agg #[.int .i64 t842, .slice Ao68 t843.length co68, .slice Ao69 t846.length co69]] (by rfl) rfl rfl mapd ?_
              with_reducible refine (spec_GapsOf.calls kj6 t842 _ _ t843 _ _ t846 t875 _ ?side1 ?side2 ?side3 ?side4 A55.out).mono ?_
              (case side1 => exact cb ((Kd.R_reads' HO845.out).2.2))
              (case side2 => exact (Kd.R_reads' HO845.out).2.1)
              (case side3 => exact cb ((Kd.R_reads' HO848.out).2.2))
              (case side4 => exact (Kd.R_reads' HO848.out).2.1)
              rintro e w97 ⟨v876, rfl, ho0, hb⟩
              refine ⟨_, rfl, ?_⟩
              replace HO_820001 := Aside0.mk (Kd.R_below (rk HO_820001.out) hb)
              replace HO_820002 := Aside0.mk (Kd.R_below (rk HO_820002.out) hb)
              replace HO_830001 := Aside0.mk (Kd.R_below (rk HO_830001.out) hb)
              replace HO_830002 := Aside0.mk (Kd.R_below (rk HO_830002.out) hb)
              replace HO_840001 := Aside0.mk (Kd.R_below (rk HO_840001.out) hb)
              replace HO_840002 := Aside0.mk (Kd.R_below (rk HO_840002.out) hb)
              replace HO845 := Aside0.mk (Kd.R_below (rk HO845.out) hb)
              replace HO848 := Aside0.mk (Kd.R_below (rk HO848.out) hb)
              replace HO854 := Aside0.mk (Kd.R_below (rk HO854.out) hb)
              replace HO857 := Aside0.mk (Kd.R_below (rk HO857.out) hb)
              have HO877 := Aside0.mk (Kd.R_lower (Kd.R_newB (Kd.R_new' (Kd.R_new' ho0 (Kd.R_lt (rk HO869.out))) (Kd.R_lt (rk HO873.out))) (g := gb864) (o := .cells #[.int .i64 t860, .int .i64 t861, .int .i64 t862] 50 (0, 0)) (bk BK864.out)) (below_size (bl HB.out)))
              replace HO869 := Aside0.mk (Kd.R_elder' (rk HO869.out) (Kd.R_base ho0) hb)
              replace HO873 := Aside0.mk (Kd.R_elder' (rk HO873.out) (Kd.R_base ho0) hb)
              replace BK819 := Aside0.mk (bb BK819.out hb)
              replace BK829 := Aside0.mk (bb BK829.out hb)
              replace BK839 := Aside0.mk (bb BK839.out hb)
              replace BK850 := Aside0.mk (bb BK850.out hb)
              replace BK859 := Aside0.mk (bb BK859.out hb)
              replace BK864 := Aside0.mk (bb BK864.out hb)
              replace HB := Aside0.mk (below_step (bl HB.out) hb)
              (try clear hb)
              (try clear hb2)
              (try clear hk)
              (try clear hi)
              (try clear ho0)
              obtain ⟨Ao98, co98, eo98⟩ := Kd.R_slice HO877.out
              (first | subst eo98 | (injection eo98 with f1_ f2_ f3_; have f4_ := f1_.symm; have f5_ := f3_.symm; clear f1_ f2_ f3_; subst f4_; subst f5_))
              refine hK.out _ _ ⟨bc BK839 0, bc BK839 1, bc BK839 2, bc BK850 0, bc BK850 1, bc BK850 2, bc BK864 0, bc BK864 1, bc BK864 2, bc BK819 0, bc BK819 1, bc BK819 2⟩ (fun hHeld => ?_)
              clear hK K
              refine norm_ (a' := ?_) ?_ ?_
              rotate_left
              ·show Act.put _ (some 124) _ = _
               simp only [Act.put, List.setIfInBounds_toArray, List.set_cons_zero, List.set_cons_succ, i64_w, i32_w]
               rfl
              refine onA (i := 42) (N := some 125) HT_.out (fun K hK => ?_)
              refine goes_ Try.func35 (by kernel_rfl) rfl #[.slice Ao98 t875.length co98] (by rfl) rfl rfl mapd ?_
              with_reducible refine (laws_room.calls kj6 _ _ t875 t878 _ ?side1 ?side2 A56.out).mono ?_
              (case side1 => exact cb ((Kd.R_reads' HO877.out).2.2))
              (case side2 => exact (Kd.R_reads' HO877.out).2.1)
              rintro e w' ⟨rfl, ⟨nd, rfl⟩⟩
              refine ⟨_, rfl, ?_⟩
              refine hK.out _ _ ⟨bc BK839 0, bc BK839 1, bc BK839 2, bc BK850 0, bc BK850 1, bc BK850 2, bc BK864 0, bc BK864 1, bc BK864 2, bc BK819 0, bc BK819 1, bc BK819 2⟩ (fun hHeld => ?_)
              clear hK K
              refine norm_ (a' := ?_) ?_ ?_
              rotate_left
              ·show Act.put _ (some 125) _ = _
               simp only [Act.put, List.setIfInBounds_toArray, List.set_cons_zero, List.set_cons_succ, i64_w, i32_w]
               rfl
              refine onA (i := 44) (N := some 127) HT_.out (fun K hK => ?_)
              refine goes_ Try.func36 (by kernel_rfl) rfl #[.agg #[.int .i64 t810, .slice Ao11 t811.length co11, .slice Ao12 t814.length co12]] (by rfl) rfl rfl mapd ?_
              with_reducible refine (spec_GapsOf.calls kj6 t810 _ _ t811 _ _ t814 t879 _ ?side1 ?side2 ?side3 ?side4 A57.out).mono ?_
              (case side1 => exact cb ((Kd.R_reads' HO_820001.out).2.2))
              (case side2 => exact (Kd.R_reads' HO_820001.out).2.1)
              (case side3 => exact cb ((Kd.R_reads' HO_820002.out).2.2))
              (case side4 => exact (Kd.R_reads' HO_820002.out).2.1)
              rintro e w99 ⟨v880, rfl, ho0, hb⟩
              refine ⟨_, rfl, ?_⟩
              replace HO_820001 := Aside0.mk (Kd.R_below (rk HO_820001.out) hb)
              replace HO_820002 := Aside0.mk (Kd.R_below (rk HO_820002.out) hb)
              replace HO_830001 := Aside0.mk (Kd.R_below (rk HO_830001.out) hb)
              replace HO_830002 := Aside0.mk (Kd.R_below (rk HO_830002.out) hb)
              replace HO_840001 := Aside0.mk (Kd.R_below (rk HO_840001.out) hb)
              replace HO_840002 := Aside0.mk (Kd.R_below (rk HO_840002.out) hb)
              replace HO845 := Aside0.mk (Kd.R_below (rk HO845.out) hb)
              replace HO848 := Aside0.mk (Kd.R_below (rk HO848.out) hb)
              replace HO854 := Aside0.mk (Kd.R_below (rk HO854.out) hb)
              replace HO857 := Aside0.mk (Kd.R_below (rk HO857.out) hb)
              have HO881 := Aside0.mk (Kd.R_lower (Kd.R_newB (Kd.R_new' (Kd.R_new' (Kd.R_new' ho0 (Kd.R_lt (rk HO869.out))) (Kd.R_lt (rk HO873.out))) (Kd.R_lt (rk HO877.out))) (g := gb864) (o := .cells #[.int .i64 t860, .int .i64 t861, .int .i64 t862] 50 (0, 0)) (bk BK864.out)) (below_size (bl HB.out)))
              replace HO869 := Aside0.mk (Kd.R_elder' (rk HO869.out) (Kd.R_base ho0) hb)
              replace HO873 := Aside0.mk (Kd.R_elder' (rk HO873.out) (Kd.R_base ho0) hb)
              replace HO877 := Aside0.mk (Kd.R_elder' (rk HO877.out) (Kd.R_base ho0) hb)
              replace BK819 := Aside0.mk (bb BK819.out hb)
              replace BK829 := Aside0.mk (bb BK829.out hb)
              replace BK839 := Aside0.mk (bb BK839.out hb)
              replace BK850 := Aside0.mk (bb BK850.out hb)
              replace BK859 := Aside0.mk (bb BK859.out hb)
              replace BK864 := Aside0.mk (bb BK864.out hb)
              replace HB := Aside0.mk (below_step (bl HB.out) hb)
              (try clear hb)
              (try clear hb2)
              (try clear hk)
              (try clear hi)
              (try clear ho0)
              obtain ⟨Ao100, co100, eo100⟩ := Kd.R_slice HO881.out
              (first | subst eo100 | (injection eo100 with f1_ f2_ f3_; have f4_ := f1_.symm; have f5_ := f3_.symm; clear f1_ f2_ f3_; subst f4_; subst f5_))
              refine hK.out _ _ ⟨bc BK839 0, bc BK839 1, bc BK839 2, bc BK850 0, bc BK850 1, bc BK850 2, bc BK864 0, bc BK864 1, bc BK864 2, bc BK819 0, bc BK819 1, bc BK819 2⟩ (fun hHeld => ?_)
              clear hK K
              refine norm_ (a' := ?_) ?_ ?_
              rotate_left
              ·show Act.put _ (some 127) _ = _
               simp only [Act.put, List.setIfInBounds_toArray, List.set_cons_zero, List.set_cons_succ, i64_w, i32_w]
               rfl
              refine onA (i := 45) (N := some 128) HT_.out (fun K hK => ?_)
              refine goes_ Try.func35 (by kernel_rfl) rfl #[.slice Ao100 t879.length co100] (by rfl) rfl rfl mapd ?_
              with_reducible refine (laws_room.calls kj6 _ _ t879 t882 _ ?side1 ?side2 A58.out).mono ?_
              (case side1 => exact cb ((Kd.R_reads' HO881.out).2.2))
              (case side2 => exact (Kd.R_reads' HO881.out).2.1)
              rintro e w' ⟨rfl, ⟨nd, rfl⟩⟩
              refine ⟨_, rfl, ?_⟩
              refine hK.out _ _ ⟨bc BK839 0, bc BK839 1, bc BK839 2, bc BK850 0, bc BK850 1, bc BK850 2, bc BK864 0, bc BK864 1, bc BK864 2, bc BK819 0, bc BK819 1, bc BK819 2⟩ (fun hHeld => ?_)
              clear hK K
              refine norm_ (a' := ?_) ?_ ?_
              rotate_left
              ·show Act.put _ (some 128) _ = _
               simp only [Act.put, List.setIfInBounds_toArray, List.set_cons_zero, List.set_cons_succ, i64_w, i32_w]
               rfl
              refine puA (i := 46) (N := some 129) HT_.out ?_
              refine puA (i := 47) (N := some 130) HT_.out ?_
              refine puA (i := 48) (N := some 2) HT_.out ?_
              refine done_ (done_of HT_.out (by kernel_rfl)) ?_
              try go_wp2
              go_ret
              exact ⟨by first | rfl | (simp [errW_none, errW_some] <;> rfl) | (simp [*, errW_none, errW_some] <;> rfl), bl HB.out⟩
             ·rw [if_neg c54] at H
              have c54b0 : (t870 == (wrap64 (t874 - t818))) = false := beq_eq_false_iff_ne.mpr c54
              have c54b1 : (t870 != (wrap64 (t874 - t818))) = true := bne_iff_ne.mpr c54
              exact nf H hr_.out
            ·rw [if_neg c49] at H
             have c49b0 : decide (t818 ≤ t862) = false := decide_eq_false c49
             clear c49
             exact nf H hr_.out
           ·rw [if_neg c48] at H
            have c48b0 : (t861 == t827) = false := beq_eq_false_iff_ne.mpr c48
            have c48b1 : (t861 != t827) = true := bne_iff_ne.mpr c48
            exact nf H hr_.out
          ·replace c47 := Bool.eq_false_iff.mpr c47
           subst c47
           rw [if_neg (show ¬ (false = true) by decide)] at H
           exact nf H hr_.out
         ·replace c46 := Bool.eq_false_iff.mpr c46
          subst c46
          rw [if_neg (show ¬ (false = true) by decide)] at H
          exact nf H hr_.out
       ·replace c43 := Bool.eq_false_iff.mpr c43
        subst c43
        rw [if_neg (show ¬ (false = true) by decide)] at H
        exact nf H hr_.out
      ·replace c42 := Bool.eq_false_iff.mpr c42
       subst c42
       rw [if_neg (show ¬ (false = true) by decide)] at H
       exact nf H hr_.out
     ·replace c37 := Bool.eq_false_iff.mpr c37
      subst c37
      rw [if_neg (show ¬ (false = true) by decide)] at H
      replace H := bo.mp H
      obtain ⟨t841, A1010, H⟩ := H
      try dsimp only at H
      have A101 := Aside0.mk A1010
      clear A1010
      by_cases c102 : t841 = true
      ·subst c102
       rw [if_pos rfl] at H
       obtain rfl := Option.some.inj H
       have hnb103 := NB829_819.out
       have hnc103 := NB819_829.out
       have hnb104 := NB829_839.out
       have hnc104 := NB839_829.out
       obtain ⟨hcz105_0, hcz105_1, hcz105_2, hfz105_0, hfz105_1, hfz105_2⟩ := cz3 BK829.out
       have hnb106 := NB819_839.out
       have hnc106 := NB839_819.out
       obtain ⟨hcz107_0, hcz107_1, hcz107_2, hfz107_0, hfz107_1, hfz107_2⟩ := cz3 BK819.out
       go_wp2_with (first | ((with_reducible refine gate_callee (f := 31) rfl ?_); refine goesL_ (some 60) rfl rfl Try.func31 (by kernel_rfl) rfl #[.agg #[.int .i64 t820, .slice Ao17 t821.length co17, .slice Ao18 t824.length co18], .agg #[.int .i64 t810, .slice Ao11 t811.length co11, .slice Ao12 t814.length co12]] rfl mapd ?_; (with_reducible refine (laws_sameColumn.calls kj6 t820 _ _ t821 _ _ t824 t810 _ _ t811 _ _ t814 true _ ?side1 ?side2 ?side3 ?side4 ?side5 ?side6 ?side7 ?side8 A101.out).mono ?_); (case side1 => exact cb ((Kd.R_reads' HO_830001.out).2.2)); (case side2 => exact (Kd.R_reads' HO_830001.out).2.1); (case side3 => exact cb ((Kd.R_reads' HO_830002.out).2.2)); (case side4 => exact (Kd.R_reads' HO_830002.out).2.1); (case side5 => exact cb ((Kd.R_reads' HO_820001.out).2.2)); (case side6 => exact (Kd.R_reads' HO_820001.out).2.1); (case side7 => exact cb ((Kd.R_reads' HO_820002.out).2.2)); (case side8 => exact (Kd.R_reads' HO_820002.out).2.1); rintro e w108 ⟨rfl, hb⟩; refine ⟨_, rfl, ?_⟩; replace HO_820001 := Aside0.mk (Kd.R_below (rk HO_820001.out) hb); replace HO_820002 := Aside0.mk (Kd.R_below (rk HO_820002.out) hb); replace HO_830001 := Aside0.mk (Kd.R_below (rk HO_830001.out) hb); replace HO_830002 := Aside0.mk (Kd.R_below (rk HO_830002.out) hb); replace HO_840001 := Aside0.mk (Kd.R_below (rk HO_840001.out) hb); replace HO_840002 := Aside0.mk (Kd.R_below (rk HO_840002.out) hb); replace BK819 := Aside0.mk (bb BK819.out hb); replace BK829 := Aside0.mk (bb BK829.out hb); replace BK839 := Aside0.mk (bb BK839.out hb); replace HB := Aside0.mk (below_step (bl HB.out) hb); (try clear hb); (try clear hb2); (try clear hk); (try clear hi)))
       go_ret
       exact ⟨by first | rfl | (simp [errW_none, errW_some] <;> rfl) | (simp [*, errW_none, errW_some] <;> rfl), bl HB.out⟩
      ·replace c102 := Bool.eq_false_iff.mpr c102
       subst c102
       rw [if_neg (show ¬ (false = true) by decide)] at H
       exact nf H hr_.out
end Go.Proofs.Ytbpjidekjogfeaa.A
