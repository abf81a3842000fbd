/- What the proof of the law FnGaps uses: lemmas, the Lean functions of the Go functions that it reaches, their contracts, and the pure statement's proof. -/
import Derived.Test.YtghfeapncmlihaaZFnGapsx16
import Derived.Test.YtghfeapncmlihaaZFnGapsx23
import Derived.Test.YtghfeapncmlihaaZFnGapsx19
import Derived.Test.YtghfeapncmlihaaZFnGapsx18
import Derived.Test.YtghfeapncmlihaaZFnGapsx20
import Derived.Test.YtghfeapncmlihaaZFnGapsx21
import Derived.Test.YtghfeapncmlihaaZFnGapsh
namespace Go.Proofs.Ytghfeapncmlihaa.A
open Go.RowKit Go.Proofs.YtghfeapncmlihaaW.PrintWords Go.Proofs.YtghfeapncmlihaaW.PrintLast Go.Proofs.YtghfeapncmlihaaW.PrintMore
attribute [local go_sem] max2_int min2_int max_two min_two max_three min_three max_four min_four   
set_option linter.unusedVariables false
set_option linter.unusedSimpArgs false
def spec_PutIn.j0 : Nat → Int → Int → Bool → Int → List Int → List (S71) → Int → Int → Int → Option (Int × List Int × (List (S71)) × Int × Bool)
 | 0, _, _, _, _, _, _, _, _, _ => none
 | k + 1, x1, x2, x29, x1036000, x1036001, x1036002, x1042000, x1042001, x1042002 => if x29 = true then ((spec_l02Copy.f x1036000 x1036001 x1036002).bind fun bt1044 => (some (bt1044.1, bt1044.2.1, bt1044.2.2, (-1), false))) else ((spec_l02Fill.f k x1036000 x1036001 x1036002 x1042000 x1042001 x1042002 x1 x2).bind fun bt1051 => (some (bt1051.1, bt1051.2.1, bt1051.2.2, x1042001, true)))
def spec_PutIn.f (k : Nat) (a0_0 : Int) (l0_1 : List Int) (l0_2 : List (S71)) (a1 : Int) (a2 : Int) : Option (Int × List Int × (List (S71)) × Int × Bool) := (spec_FitOf.f k a0_0 l0_1 l0_2 a2).bind fun bt1037 => (if bt1037.2.2.2 = true then ((spec_l01In.f a1 1 999).bind fun t1042 => (if t1042 = true then ((spec_l02Box.f k a0_0 l0_1 l0_2 a1).bind fun t1043 => (spec_PutIn.j0 k a1 a2 (decide (t1043 ≥ 0)) a0_0 l0_1 l0_2 bt1037.1 bt1037.2.1 bt1037.2.2.1)) else (spec_PutIn.j0 k a1 a2 true a0_0 l0_1 l0_2 bt1037.1 bt1037.2.1 bt1037.2.2.1))) else (spec_PutIn.j0 k a1 a2 true a0_0 l0_1 l0_2 bt1037.1 bt1037.2.1 bt1037.2.2.1))
def spec_PutIn.T4 : Bool × List (List Nat × List Nat) := (true, [([], []), ([], []), ([], []), ([], []), ([0, 1, 2, 3], [0, 1, 2, 3]), ([], []), ([5], [5]), ([4, 4, 0, 1, 2, 3, 4], [4]), ([6, 7, 0, 1, 2, 3, 4, 5, 6, 7], [6]), ([8, 0, 1, 2, 3, 4, 5, 6, 7, 8], [])])
def spec_PutIn.B4 : List Nat := [0, 0, 0, 0, 15, 0, 32, 31, 255, 511]
theorem spec_PutIn.tab4 : rtab .any (opsOf Try.f102 4) = spec_PutIn.T4 := by kernel_rfl
theorem spec_PutIn.bits4 : waitsOk spec_PutIn.T4.2 spec_PutIn.B4 = true := by kernel_rfl
set_option maxHeartbeats 8000000 in
set_option maxRecDepth 100000 in
theorem spec_PutIn.calls (k : Nat) (a0_0 : Int) (A0_1 : Option Addr) (c0_1 : Nat) (l0_1 : List Int) (A0_2 : Option Addr) (c0_2 : Nat) (l0_2 : List (S71)) (a1 : Int) (a2 : Int) (r1 : Int) (r2 : List Int) (r3 : List (S71)) (r4 : Int) (r5 : Bool) (w : World) (hr0_1 : Kd.C (Kd.int .i64) w A0_1 l0_1.length l0_1) (hc0_1 : l0_1.length ≤ c0_1) (hr0_2 : Kd.C k71 w A0_2 l0_2.length l0_2) (hc0_2 : l0_2.length ≤ c0_2) (h : spec_PutIn.f k a0_0 l0_1 l0_2 a1 a2 = some (r1, r2, r3, r4, r5)) :
  Calls Try.prog 102 #[.agg #[.int .i64 a0_0, .slice A0_1 l0_1.length c0_1, .slice A0_2 l0_2.length c0_2], .int .i64 a1, .int .i64 a2] w fun e w' => ∃ v1_ v2_ : Value, e = .returned (.tuple #[.agg #[.int .i64 r1, v1_, v2_], .int .i64 r4, .bool r5]) ∧ Kd.R (Kd.int .i64) 3 w' w.heap.size (fun _ => True) v1_ r2 ∧ Kd.R k71 71 w' w.heap.size (fun _ => True) v2_ r3 ∧ Below w.heap.size w w' := by
 have hu30 := Try.underlying30
 have hu54 := Try.underlying54
 have HR0_1 := Aside0.mk hr0_1
 have HC0_1 := Aside0.mk hc0_1
 clear hr0_1 hc0_1
 have HR0_2 := Aside0.mk hr0_2
 have HC0_2 := Aside0.mk hc0_2
 clear hr0_2 hc0_2
 have HB := Aside0.mk (Below.refl w.heap.size w)
 have H : ((spec_FitOf.f k a0_0 l0_1 l0_2 a2).bind fun bt1037 => (if bt1037.2.2.2 = true then ((spec_l01In.f a1 1 999).bind fun t1042 => (if t1042 = true then ((spec_l02Box.f k a0_0 l0_1 l0_2 a1).bind fun t1043 => (spec_PutIn.j0 k a1 a2 (decide (t1043 ≥ 0)) a0_0 l0_1 l0_2 bt1037.1 bt1037.2.1 bt1037.2.2.1)) else (spec_PutIn.j0 k a1 a2 true a0_0 l0_1 l0_2 bt1037.1 bt1037.2.1 bt1037.2.2.1))) else (spec_PutIn.j0 k a1 a2 true a0_0 l0_1 l0_2 bt1037.1 bt1037.2.1 bt1037.2.2.1))) = some (r1, r2, r3, r4, r5) := h
 clear h
 replace H := Option.bind_eq_some_iff.mp H
 obtain ⟨⟨t1037, t1038, t1039, t1040⟩, A40, H⟩ := H
 try dsimp only at H
 have A4 := Aside0.mk A40
 clear A40
 have HC5 := Aside0.mk H
 clear H
 go_enter Try.func102, Try.ntmps102
 go_upto_region 2 with (first | ((with_reducible refine gate_dst (N := 3) rfl ?_); refine bx (cs := #[.int .i64 a0_0, .slice A0_1 l0_1.length c0_1, .slice A0_2 l0_2.length c0_2]) (t := 30) fun gb1035 hg w6 hbox hb => ?_; have BK1035 := Aside0.mk (hbox); have GW1035 := Aside0.mk (gs HB.out hg); have GE1035 := Aside0.mk (gs HB.out hg); replace HB := Aside0.mk (below_step (bl HB.out) hb); clear hb hbox hg) | ((with_reducible refine gate_dst (N := 6) rfl ?_); refine bx (cs := #[.int .i64 0, .slice none 0 0, .slice none 0 0]) (t := 30) fun gb1036 hg w7 hbox hb => ?_; have BK1036 := Aside0.mk (hbox); have GW1036 := Aside0.mk (gs HB.out hg); have GE1036 := Aside0.mk (gs HB.out hg); replace HB := Aside0.mk (below_step (bl HB.out) hb); have NB1035_1036 := Aside0.mk ((nl BK1035.out hg)); have NB1036_1035 := Aside0.mk ((ng BK1035.out hg)); replace BK1035 := Aside0.mk (bb BK1035.out hb); clear hb hbox hg; have hnb8 := NB1035_1036.out; have hnc8 := NB1036_1035.out; obtain ⟨hcz9_0, hcz9_1, hcz9_2, hfz9_0, hfz9_1, hfz9_2⟩ := cz3 BK1035.out) | ((with_reducible refine gate_callee (f := 36) rfl ?_); refine goesL_ (some 14) rfl rfl Try.func36 (by kernel_rfl) rfl #[.agg #[.int .i64 a0_0, .slice A0_1 l0_1.length c0_1, .slice A0_2 l0_2.length c0_2], .int .i64 a2] rfl mapd ?_; (with_reducible refine (spec_FitOf.calls k a0_0 _ _ l0_1 _ _ l0_2 a2 t1037 t1038 t1039 t1040 _ ?side1 ?side2 ?side3 ?side4 A4.out).mono ?_); (case side1 => exact cb (Kd.C_below HR0_1.out HB.out)); (case side2 => exact HC0_1.out); (case side3 => exact cb (Kd.C_below HR0_2.out HB.out)); (case side4 => exact HC0_2.out); rintro e w10 ⟨rfl, hb⟩; refine ⟨_, rfl, ?_⟩; replace BK1035 := Aside0.mk (bb BK1035.out hb); replace BK1036 := Aside0.mk (bb BK1036.out hb); replace HB := Aside0.mk (below_step (bl HB.out) hb); (try clear hb); (try clear hb2); (try clear hk); (try clear hi)) | ((with_reducible refine gate_dst (N := 9) rfl ?_); refine bx (cs := #[.int .i64 0, .int .i64 0, .int .i64 0]) (t := 54) fun gb1041 hg w11 hbox hb => ?_; have BK1041 := Aside0.mk (hbox); have GW1041 := Aside0.mk (gs HB.out hg); have GE1041 := Aside0.mk (gs HB.out hg); replace HB := Aside0.mk (below_step (bl HB.out) hb); have NB1035_1041 := Aside0.mk ((nl BK1035.out hg)); have NB1041_1035 := Aside0.mk ((ng BK1035.out hg)); replace BK1035 := Aside0.mk (bb BK1035.out hb); have NB1036_1041 := Aside0.mk ((nl BK1036.out hg)); have NB1041_1036 := Aside0.mk ((ng BK1036.out hg)); replace BK1036 := Aside0.mk (bb BK1036.out hb); clear hb hbox hg; have hnb12 := NB1041_1035.out; have hnc12 := NB1035_1041.out; have hnb13 := NB1041_1036.out; have hnc13 := NB1036_1041.out; obtain ⟨hcz14_0, hcz14_1, hcz14_2, hfz14_0, hfz14_1, hfz14_2⟩ := cz3 BK1041.out))
 (try simp only [Act.put, List.setIfInBounds_toArray, List.set_cons_zero, List.set_cons_succ])
 go_cut [29] (fun v29 wc => ∃ (kq : Nat) (x29_4 : Bool), v29 = .bool x29_4 ∧ Aside0 (spec_PutIn.j0 kq a1 a2 x29_4 a0_0 l0_1 l0_2 t1037 t1038 t1039 = some (r1, r2, r3, r4, r5)) ∧ Aside0 (kq ≤ k) ∧ Aside0 (wc.heap[gb1035]? = some (.cells #[.int .i64 a0_0, (.slice A0_1 l0_1.length c0_1), (.slice A0_2 l0_2.length c0_2)] 30 (0, 0))) ∧ Aside0 (wc.heap[gb1036]? = some (.cells #[.int .i64 0, (.slice none 0 0), (.slice none 0 0)] 30 (0, 0))) ∧ Aside0 (wc.heap[gb1041]? = some (.cells #[.int .i64 t1037, .int .i64 t1038, .int .i64 t1039] 54 (0, 0))) ∧ Aside0 (Below w.heap.size w wc))
 case first =>
  have H := HC5.out
  clear HC5
  by_cases c15 : t1040 = true
  ·subst c15
   rw [if_pos rfl] at H
   replace H := Option.bind_eq_some_iff.mp H
   obtain ⟨t1042, A160, H⟩ := H
   try dsimp only at H
   have A16 := Aside0.mk A160
   clear A160
   by_cases c17 : t1042 = true
   ·subst c17
    rw [if_pos rfl] at H
    replace H := Option.bind_eq_some_iff.mp H
    obtain ⟨t1043, A180, H⟩ := H
    try dsimp only at H
    have A18 := Aside0.mk A180
    clear A180
    have H' := Aside0.mk H
    clear H
    go_wp2_with (first | (go_at_call 59; (with_reducible refine (spec_l01In.calls a1 1 999 true _ A16.out).mono ?_); rintro e w' ⟨rfl, ⟨nd, rfl⟩⟩; have hnb19 := NB1035_1036.out; have hnc19 := NB1036_1035.out; have hnb20 := NB1035_1041.out; have hnc20 := NB1041_1035.out; obtain ⟨hcz21_0, hcz21_1, hcz21_2, hfz21_0, hfz21_1, hfz21_2⟩ := cz3 BK1035.out) | (go_at_call 68; (with_reducible refine (spec_l02Box.calls k a0_0 _ _ l0_1 _ _ l0_2 a1 t1043 _ ?side1 ?side2 ?side3 ?side4 A18.out).mono ?_); (case side1 => exact Kd.C_below HR0_1.out (bl HB.out)); (case side2 => exact HC0_1.out); (case side3 => exact Kd.C_below HR0_2.out (bl HB.out)); (case side4 => exact HC0_2.out); rintro e w22 ⟨rfl, hb⟩; replace BK1035 := Aside0.mk (blk_below (g := gb1035) (o := .cells #[.int .i64 a0_0, .slice A0_1 l0_1.length c0_1, .slice A0_2 l0_2.length c0_2] 30 (0, 0)) (bf BK1035.out) hb); replace BK1036 := Aside0.mk (blk_below (g := gb1036) (o := .cells #[.int .i64 0, .slice none 0 0, .slice none 0 0] 30 (0, 0)) (bf BK1036.out) hb); replace BK1041 := Aside0.mk (blk_below (g := gb1041) (o := .cells #[.int .i64 t1037, .int .i64 t1038, .int .i64 t1039] 54 (0, 0)) (by refine bk ?_; refine blk_put (cs := #[.int .i64 t1037, .int .i64 t1038, .int .i64 0]) ?_ 2 _ rfl; refine bk ?_; refine blk_put (cs := #[.int .i64 t1037, .int .i64 0, .int .i64 0]) ?_ 1 _ rfl; refine bk ?_; refine blk_put (cs := #[.int .i64 0, .int .i64 0, .int .i64 0]) ?_ 0 _ rfl; refine bk ?_; exact BK1041.out) hb); replace HB := Aside0.mk (below_step (bl HB.out) hb); (try clear hb); (try clear hb2); (try clear hk); (try clear hi)))
    go_meet
    case rel => exact ⟨_, (decide (t1043 ≥ 0)), (by first | rfl | (simp; done) | (simp [*]; done)), H', ⟨by first | omega | exact Nat.le_refl _⟩, ⟨by refine bk ?_; exact BK1035.out⟩, ⟨by refine bk ?_; exact BK1036.out⟩, ⟨by refine bk ?_; exact BK1041.out⟩, ⟨bl HB.out⟩⟩
   ·replace c17 := Bool.eq_false_iff.mpr c17
    subst c17
    rw [if_neg (show ¬ (false = true) by decide)] at H
    have H' := Aside0.mk H
    clear H
    go_wp2_with (first | (go_at_call 59; (with_reducible refine (spec_l01In.calls a1 1 999 false _ A16.out).mono ?_); rintro e w' ⟨rfl, ⟨nd, rfl⟩⟩))
    go_meet
    case rel => exact ⟨_, (true), (by first | rfl | (simp; done) | (simp [*]; done)), H', ⟨by first | omega | exact Nat.le_refl _⟩, ⟨by refine bk ?_; refine blk_far ?_ NB1035_1041.out _; refine bk ?_; refine blk_far ?_ NB1035_1041.out _; refine bk ?_; refine blk_far ?_ NB1035_1041.out _; refine bk ?_; exact BK1035.out⟩, ⟨by refine bk ?_; refine blk_far ?_ NB1036_1041.out _; refine bk ?_; refine blk_far ?_ NB1036_1041.out _; refine bk ?_; refine blk_far ?_ NB1036_1041.out _; refine bk ?_; exact BK1036.out⟩, ⟨by refine bk ?_; refine blk_put (cs := #[.int .i64 t1037, .int .i64 t1038, .int .i64 0]) ?_ 2 _ rfl; refine bk ?_; refine blk_put (cs := #[.int .i64 t1037, .int .i64 0, .int .i64 0]) ?_ 1 _ rfl; refine bk ?_; refine blk_put (cs := #[.int .i64 0, .int .i64 0, .int .i64 0]) ?_ 0 _ rfl; refine bk ?_; exact BK1041.out⟩, ⟨bl HB.out⟩⟩
  ·replace c15 := Bool.eq_false_iff.mpr c15
   subst c15
   rw [if_neg (show ¬ (false = true) by decide)] at H
   have H' := Aside0.mk H
   clear H
   go_wp2
   go_meet
   case rel => exact ⟨_, (true), (by first | rfl | (simp; done) | (simp [*]; done)), H', ⟨by first | omega | exact Nat.le_refl _⟩, ⟨by refine bk ?_; refine blk_far ?_ NB1035_1041.out _; refine bk ?_; refine blk_far ?_ NB1035_1041.out _; refine bk ?_; refine blk_far ?_ NB1035_1041.out _; refine bk ?_; exact BK1035.out⟩, ⟨by refine bk ?_; refine blk_far ?_ NB1036_1041.out _; refine bk ?_; refine blk_far ?_ NB1036_1041.out _; refine bk ?_; refine blk_far ?_ NB1036_1041.out _; refine bk ?_; exact BK1036.out⟩, ⟨by refine bk ?_; refine blk_put (cs := #[.int .i64 t1037, .int .i64 t1038, .int .i64 0]) ?_ 2 _ rfl; refine bk ?_; refine blk_put (cs := #[.int .i64 t1037, .int .i64 0, .int .i64 0]) ?_ 1 _ rfl; refine bk ?_; refine blk_put (cs := #[.int .i64 0, .int .i64 0, .int .i64 0]) ?_ 0 _ rfl; refine bk ?_; exact BK1041.out⟩, ⟨bl HB.out⟩⟩
 case rest =>
  clear HC5
  try clear c1
  try clear c2
  try clear p2
  try clear c3
  try clear c8
  try clear c10
  try clear c12
  try clear c13
  try clear c15
  try clear c17
  try clear c19
  try clear c20
  try clear hcz14_0
  try clear hcz14_1
  try clear hcz14_2
  try clear hcz21_0
  try clear hcz21_1
  try clear hcz21_2
  try clear hcz9_0
  try clear hcz9_1
  try clear hcz9_2
  try clear hfz14_0
  try clear hfz14_1
  try clear hfz14_2
  try clear hfz21_0
  try clear hfz21_1
  try clear hfz21_2
  try clear hfz9_0
  try clear hfz9_1
  try clear hfz9_2
  obtain ⟨kq, x29_4, rfl, HA, HJ4, BK1035, BK1036, BK1041, HB⟩ := hcut
  cases kq with
  | zero => exact absurd HA.out (by simp [spec_PutIn.j0])
  | succ kj4 =>
   have H := HA.out
   clear HA
   simp only [spec_PutIn.j0] at H
   by_cases c23 : x29_4 = true
   ·subst c23
    rw [if_pos rfl] at H
    replace H := Option.bind_eq_some_iff.mp H
    obtain ⟨⟨t1044, t1045, t1048⟩, A240, H⟩ := H
    try dsimp only at H
    have A24 := Aside0.mk A240
    clear A240
    simp only [Option.some.injEq, Prod.mk.injEq] at H
    obtain ⟨rfl, rfl, rfl, rfl, rfl⟩ := H
    have hnb25 := NB1035_1036.out
    have hnc25 := NB1036_1035.out
    have hnb26 := NB1035_1041.out
    have hnc26 := NB1041_1035.out
    obtain ⟨hcz27_0, hcz27_1, hcz27_2, hfz27_0, hfz27_1, hfz27_2⟩ := cz3 BK1035.out
    go_wp2_with (first | ((with_reducible refine gate_callee (f := 71) rfl ?_); refine goesL_ (some 31) rfl rfl Try.func71 (by kernel_rfl) rfl #[.agg #[.int .i64 a0_0, .slice A0_1 l0_1.length c0_1, .slice A0_2 l0_2.length c0_2]] rfl mapd ?_; (with_reducible refine (spec_l02Copy.calls a0_0 _ _ l0_1 _ _ l0_2 t1044 t1045 t1048 _ ?side1 ?side2 ?side3 ?side4 A24.out).mono ?_); (case side1 => exact cb (Kd.C_below HR0_1.out HB.out)); (case side2 => exact HC0_1.out); (case side3 => exact cb (Kd.C_below HR0_2.out HB.out)); (case side4 => exact HC0_2.out); rintro e w28 ⟨v1046, v1049, rfl, ho0, ho1, hb⟩; refine ⟨_, rfl, ?_⟩; have HO1047 := Aside0.mk (Kd.R_lower ho0 (below_size (bl HB.out))); have HO1050 := Aside0.mk (Kd.R_lower ho1 (below_size (bl HB.out))); replace BK1035 := Aside0.mk (bb BK1035.out hb); replace BK1036 := Aside0.mk (bb BK1036.out hb); replace BK1041 := Aside0.mk (bb BK1041.out hb); replace HB := Aside0.mk (below_step (bl HB.out) hb); (try clear hb); (try clear hb2); (try clear hk); (try clear hi); (try clear ho0); (try clear ho1); have hnb29 := NB1036_1041.out; have hnc29 := NB1041_1036.out; obtain ⟨hcz30_0, hcz30_1, hcz30_2, hfz30_0, hfz30_1, hfz30_2⟩ := cz3 BK1036.out; obtain ⟨Ao31, co31, eo31⟩ := Kd.R_slice HO1047.out; subst eo31; obtain ⟨Ao32, co32, eo32⟩ := Kd.R_slice HO1050.out; subst eo32))
    refine bodyPost_ret (results_ctt rfl _ _ gb1036 30 #[.int .i64 t1044, .slice Ao31 t1045.length co31, .slice Ao32 t1048.length co32] (0, 0) _ rfl (by refine bk ?_; refine blk_put (cs := #[.int .i64 t1044, .slice Ao31 t1045.length co31, .slice none 0 0]) ?_ 2 _ rfl; refine bk ?_; refine blk_put (cs := #[.int .i64 t1044, .slice none 0 0, .slice none 0 0]) ?_ 1 _ rfl; refine bk ?_; refine blk_put (cs := #[.int .i64 0, .slice none 0 0, .slice none 0 0]) ?_ 0 _ rfl; refine bk ?_; exact BK1036.out) Try.underlying30 rfl (by kernel_rfl)) rfl ?_
    exact ⟨_, _, by first | rfl | (simp [errW_none, errW_some] <;> rfl) | (simp [*, errW_none, errW_some] <;> rfl), by refine rk ?_; exact Kd.R_mono (Kd.R_far (p := ⟨gb1036, 2, none⟩) (Kd.R_far (p := ⟨gb1036, 1, none⟩) (Kd.R_far (p := ⟨gb1036, 0, none⟩) (Kd.R_types HO1047.out BK1036.out (by decide)) (fun _ hk => hk.2) (.int .i64 t1044)) (fun _ hk => hk.2) (.slice Ao31 t1045.length co31)) (fun _ hk => hk.2) (.slice Ao32 t1048.length co32)) (fun _ hk => trivial), by refine rk ?_; exact Kd.R_mono (Kd.R_far (p := ⟨gb1036, 2, none⟩) (Kd.R_far (p := ⟨gb1036, 1, none⟩) (Kd.R_far (p := ⟨gb1036, 0, none⟩) (Kd.R_types HO1050.out BK1036.out (by decide)) (fun _ hk => hk.2) (.int .i64 t1044)) (fun _ hk => hk.2) (.slice Ao31 t1045.length co31)) (fun _ hk => hk.2) (.slice Ao32 t1048.length co32)) (fun _ hk => trivial), bl HB.out⟩
   ·replace c23 := Bool.eq_false_iff.mpr c23
    subst c23
    rw [if_neg (show ¬ (false = true) by decide)] at H
    replace H := Option.bind_eq_some_iff.mp H
    obtain ⟨⟨t1051, t1052, t1055⟩, A330, H⟩ := H
    try dsimp only at H
    have A33 := Aside0.mk A330
    clear A330
    simp only [Option.some.injEq, Prod.mk.injEq] at H
    obtain ⟨rfl, rfl, rfl, rfl, rfl⟩ := H
    try go_wp2
    replace BK1035 := Aside0.mk (blk_drew BK1035.out)
    replace BK1036 := Aside0.mk (blk_drew BK1036.out)
    replace BK1041 := Aside0.mk (blk_drew BK1041.out)
    replace HB := Aside0.mk (below_drew1 HB.out)
    refine start_ (n := 10) (S := fun w' => w'.cell? ⟨gb1035, 0, none⟩ = some (.int .i64 a0_0) ∧ w'.cell? ⟨gb1035, 1, none⟩ = some (.slice A0_1 l0_1.length c0_1) ∧ w'.cell? ⟨gb1035, 2, none⟩ = some (.slice A0_2 l0_2.length c0_2) ∧ w'.cell? ⟨gb1041, 0, none⟩ = some (.int .i64 t1037) ∧ w'.cell? ⟨gb1041, 1, none⟩ = some (.int .i64 t1038) ∧ w'.cell? ⟨gb1041, 2, none⟩ = some (.int .i64 t1039)) (ds := []) #[false, false, false, false, false, false, false, false, false, false] (by kernel_rfl) rfl rfl ⟨(blk_cell BK1035.out 0).trans rfl, (blk_cell BK1035.out 1).trans rfl, (blk_cell BK1035.out 2).trans rfl, (blk_cell BK1041.out 0).trans rfl, (blk_cell BK1041.out 1).trans rfl, (blk_cell BK1041.out 2).trans rfl⟩ (fun hHeld => ?_); refine with_tabW spec_PutIn.tab4 spec_PutIn.bits4 (fun HT_ HW_ => ?_)
    generalize wc.drew = w34 at BK1035 BK1036 BK1041 HB hHeld ⊢
    refine puA (i := 2) (N := some 34) HT_.out ?_
    refine puA (i := 3) (N := some 35) HT_.out ?_
    refine puA (i := 5) (N := some 37) HT_.out ?_
    refine tkA6 (i := 0) (N := some 32) HT_.out HW_.out hHeld ?_
    refine tkA6 (i := 1) (N := some 33) HT_.out HW_.out hHeld ?_
    refine tkA6 (i := 6) (N := some 38) HT_.out HW_.out hHeld ?_
    refine onA (i := 4) (N := some 36) HT_.out (fun K hK => ?_)
    refine goes_ Try.func80 (by kernel_rfl) rfl #[.agg #[.int .i64 a0_0, .slice A0_1 l0_1.length c0_1, .slice A0_2 l0_2.length c0_2], .agg #[.int .i64 t1037, .int .i64 t1038, .int .i64 t1039], .int .i64 a1, .int .i64 a2] (by rfl) rfl rfl mapd ?_
    with_reducible refine (spec_l02Fill.calls kj4 a0_0 _ _ l0_1 _ _ l0_2 t1037 t1038 t1039 a1 a2 t1051 t1052 t1055 _ ?side1 ?side2 ?side3 ?side4 A33.out).mono ?_
    (case side1 => exact cb (Kd.C_below HR0_1.out HB.out))
    (case side2 => exact HC0_1.out)
    (case side3 => exact cb (Kd.C_below HR0_2.out HB.out))
    (case side4 => exact HC0_2.out)
    rintro e w35 ⟨v1053, v1056, rfl, ho0, ho1, hb⟩
    refine ⟨_, rfl, ?_⟩
    have HO1054 := Aside0.mk (Kd.R_lower ho0 (below_size (bl HB.out)))
    have HO1057 := Aside0.mk (Kd.R_lower ho1 (below_size (bl HB.out)))
    replace BK1035 := Aside0.mk (bb BK1035.out hb)
    replace BK1036 := Aside0.mk (bb BK1036.out hb)
    replace BK1041 := Aside0.mk (bb BK1041.out hb)
    replace HB := Aside0.mk (below_step (bl HB.out) hb)
    (try clear hb)
    (try clear hb2)
    (try clear hk)
    (try clear hi)
    (try clear ho0)
    (try clear ho1)
    obtain ⟨Ao37, co37, eo37⟩ := Kd.R_slice HO1054.out
    (first | subst eo37 | (injection eo37 with f1_ f2_ f3_; have f4_ := f1_.symm; have f5_ := f3_.symm; clear f1_ f2_ f3_; subst f4_; subst f5_))
    obtain ⟨Ao39, co39, eo39⟩ := Kd.R_slice HO1057.out
    (first | subst eo39 | (injection eo39 with f1_ f2_ f3_; have f4_ := f1_.symm; have f5_ := f3_.symm; clear f1_ f2_ f3_; subst f4_; subst f5_))
    refine hK.out _ _ ⟨(blk_cell BK1035.out 0).trans rfl, (blk_cell BK1035.out 1).trans rfl, (blk_cell BK1035.out 2).trans rfl, (blk_cell BK1041.out 0).trans rfl, (blk_cell BK1041.out 1).trans rfl, (blk_cell BK1041.out 2).trans rfl⟩ (fun hHeld => ?_)
    clear hK K
    refine norm_ (a' := ?_) ?_ ?_
    rotate_left
    ·show Act.put _ (some 36) _ = _
     simp only [Act.put, List.setIfInBounds_toArray, List.set_cons_zero, List.set_cons_succ, i64_w, i32_w]
     rfl
    refine onA (i := 7) (N := none) HT_.out (fun K hK => ?_)
    have hs36 : w35.cell? ⟨gb1036, 0, none⟩ = some (.int .i64 0) := (blk_cell BK1036.out 0).trans rfl
    have hfs36 := blk_frozen BK1036.out 0
    have hns36_0 := NB1035_1036.out
    have hns36_2 := NB1041_1036.out
    have hms36_0 := NB1036_1035.out
    have hms36_2 := NB1036_1041.out
    have hs38 : w35.cell? ⟨gb1036, 1, none⟩ = some (.slice none 0 0) := (blk_cell BK1036.out 1).trans rfl
    have hfs38 := blk_frozen BK1036.out 1
    have hns38_0 := NB1035_1036.out
    have hns38_2 := NB1041_1036.out
    have hms38_0 := NB1036_1035.out
    have hms38_2 := NB1036_1041.out
    have hs40 : w35.cell? ⟨gb1036, 2, none⟩ = some (.slice none 0 0) := (blk_cell BK1036.out 2).trans rfl
    have hfs40 := blk_frozen BK1036.out 2
    have hns40_0 := NB1035_1036.out
    have hns40_2 := NB1041_1036.out
    have hms40_0 := NB1036_1035.out
    have hms40_2 := NB1036_1041.out
    refine skip_ (w1 := ?_) (by rfl) rfl ?_ ?_
    rotate_left
    ·go_simp
     rfl
    refine hK.out _ _ ⟨((cell_far (p := ⟨gb1036, _, none⟩) NB1035_1036.out _).trans (((cell_far (p := ⟨gb1036, _, none⟩) NB1035_1036.out _).trans (((cell_far (p := ⟨gb1036, _, none⟩) NB1035_1036.out _).trans (hHeld.1)))))), ((cell_far (p := ⟨gb1036, _, none⟩) NB1035_1036.out _).trans (((cell_far (p := ⟨gb1036, _, none⟩) NB1035_1036.out _).trans (((cell_far (p := ⟨gb1036, _, none⟩) NB1035_1036.out _).trans (hHeld.2.1)))))), ((cell_far (p := ⟨gb1036, _, none⟩) NB1035_1036.out _).trans (((cell_far (p := ⟨gb1036, _, none⟩) NB1035_1036.out _).trans (((cell_far (p := ⟨gb1036, _, none⟩) NB1035_1036.out _).trans (hHeld.2.2.1)))))), ((cell_far (p := ⟨gb1036, _, none⟩) NB1041_1036.out _).trans (((cell_far (p := ⟨gb1036, _, none⟩) NB1041_1036.out _).trans (((cell_far (p := ⟨gb1036, _, none⟩) NB1041_1036.out _).trans (hHeld.2.2.2.1)))))), ((cell_far (p := ⟨gb1036, _, none⟩) NB1041_1036.out _).trans (((cell_far (p := ⟨gb1036, _, none⟩) NB1041_1036.out _).trans (((cell_far (p := ⟨gb1036, _, none⟩) NB1041_1036.out _).trans (hHeld.2.2.2.2.1)))))), ((cell_far (p := ⟨gb1036, _, none⟩) NB1041_1036.out _).trans (((cell_far (p := ⟨gb1036, _, none⟩) NB1041_1036.out _).trans (((cell_far (p := ⟨gb1036, _, none⟩) NB1041_1036.out _).trans (hHeld.2.2.2.2.2))))))⟩ (fun hHeld => ?_)
    clear hK K
    refine puA (i := 8) (N := some 7) HT_.out ?_
    refine puA (i := 9) (N := some 8) HT_.out ?_
    refine done_ (done_of HT_.out (by kernel_rfl)) ?_
    try go_wp2
    refine bodyPost_ret (results_ctt rfl _ _ gb1036 30 #[.int .i64 t1051, .slice Ao37 t1052.length co37, .slice Ao39 t1055.length co39] (0, 0) _ rfl (by refine bk ?_; refine blk_put (cs := #[.int .i64 t1051, .slice Ao37 t1052.length co37, .slice none 0 0]) ?_ 2 _ rfl; refine bk ?_; refine blk_put (cs := #[.int .i64 t1051, .slice none 0 0, .slice none 0 0]) ?_ 1 _ rfl; refine bk ?_; refine blk_put (cs := #[.int .i64 0, .slice none 0 0, .slice none 0 0]) ?_ 0 _ rfl; refine bk ?_; exact BK1036.out) Try.underlying30 rfl (by kernel_rfl)) rfl ?_
    exact ⟨_, _, by first | rfl | (simp [errW_none, errW_some] <;> rfl) | (simp [*, errW_none, errW_some] <;> rfl), by refine rk ?_; exact Kd.R_mono (Kd.R_far (p := ⟨gb1036, 2, none⟩) (Kd.R_far (p := ⟨gb1036, 1, none⟩) (Kd.R_far (p := ⟨gb1036, 0, none⟩) (Kd.R_types HO1054.out BK1036.out (by decide)) (fun _ hk => hk.2) (.int .i64 t1051)) (fun _ hk => hk.2) (.slice Ao37 t1052.length co37)) (fun _ hk => hk.2) (.slice Ao39 t1055.length co39)) (fun _ hk => trivial), by refine rk ?_; exact Kd.R_mono (Kd.R_far (p := ⟨gb1036, 2, none⟩) (Kd.R_far (p := ⟨gb1036, 1, none⟩) (Kd.R_far (p := ⟨gb1036, 0, none⟩) (Kd.R_types HO1057.out BK1036.out (by decide)) (fun _ hk => hk.2) (.int .i64 t1051)) (fun _ hk => hk.2) (.slice Ao37 t1052.length co37)) (fun _ hk => hk.2) (.slice Ao39 t1055.length co39)) (fun _ hk => trivial), bl HB.out⟩
end Go.Proofs.Ytghfeapncmlihaa.A

namespace Go.Proofs.Ytghfeapncmlihaa.A
open Go.RowKit Go.Proofs.YtghfeapncmlihaaW.PrintWords Go.Proofs.YtghfeapncmlihaaW.PrintLast Go.Proofs.YtghfeapncmlihaaW.PrintMore
attribute [local go_sem] max2_int min2_int max_two min_two max_three min_three max_four min_four   
set_option linter.unusedVariables false
set_option linter.unusedSimpArgs false
mutual
def spec_l02Column.j0 : Nat → Int → Int → List Int → List Int → Int → Int → Option (Int × List Int × (List (S71)) × Int × Int)
 | 0, _, _, _, _, _, _ => none
 | k + 1, x1, x5, x6, x1000, x1001, x1002 => (spec_NewColumn.f k x5 x6).bind fun bt1074 => ((spec_l01Below.f x1000 x1001 x1002 7).bind fun bt1083 => (spec_l02Column.l0 k x1 x5 bt1083.1 x1000 bt1083.2.1 bt1083.2.2 bt1074.1 bt1074.2.1 bt1074.2.2.1))
def spec_l02Column.l0 : Nat → Int → Int → Int → List Int → Int → Int → Int → List Int → List (S71) → Option (Int × List Int × (List (S71)) × Int × Int)
 | 0, _, _, _, _, _, _, _, _, _ => none
 | k + 1, x1, x5, x9, x1000, x1001, x1002, x1083000, x1083001, x1083002 => if x9 > 0 then ((spec_l01Below.f x1000 x1001 x1002 6).bind fun bt1086 => ((spec_l01Below.f x1000 bt1086.2.1 bt1086.2.2 6).bind fun bt1089 => (if bt1089.1 = 0 then (spec_l02Column.j2 k x1 x5 x9 (wrap64 (x1 + bt1086.1)) bt1089.1 (bt1089.1 == 0) x1000 bt1089.2.1 bt1089.2.2 x1083000 x1083001 x1083002) else (spec_l02Column.j2 k x1 x5 x9 (wrap64 (x1 + bt1086.1)) bt1089.1 (bt1089.1 == 1) x1000 bt1089.2.1 bt1089.2.2 x1083000 x1083001 x1083002)))) else (some (x1083000, x1083001, x1083002, x1001, x1002))
def spec_l02Column.j2 : Nat → Int → Int → Int → Int → Int → Bool → List Int → Int → Int → Int → List Int → List (S71) → Option (Int × List Int × (List (S71)) × Int × Int)
 | 0, _, _, _, _, _, _, _, _, _, _, _, _ => none
 | k + 1, x1, x5, x9, x10, x42, x53, x1000, x1001, x1002, x1083000, x1083001, x1083002 => if x53 = true then ((spec_TakeOut.f k x1083000 x1083001 x1083002 x10).bind fun bt1092 => (spec_l02Column.l0 k x1 x5 (wrap64 (x9 - 1)) x1000 x1001 x1002 bt1092.1 bt1092.2.1 bt1092.2.2.1)) else (if x42 = 2 then ((spec_l01Below.f x1000 x1001 x1002 x5).bind fun bt1100 => ((spec_l01Once.f x1000 bt1100.2.1 bt1100.2.2 3).bind fun bt1103 => ((spec_SetJam.f k x1083000 x1083001 x1083002 bt1100.1 bt1103.1).bind fun bt1106 => (spec_l02Column.l0 k x1 x5 (wrap64 (x9 - 1)) x1000 bt1103.2.1 bt1103.2.2 bt1106.1 bt1106.2.1 bt1106.2.2.1)))) else ((spec_l01Below.f x1000 x1001 x1002 4).bind fun bt1114 => ((spec_PutIn.f k x1083000 x1083001 x1083002 x10 (wrap64 (1 + bt1114.1))).bind fun bt1117 => (spec_l02Column.l0 k x1 x5 (wrap64 (x9 - 1)) x1000 bt1114.2.1 bt1114.2.2 bt1117.1 bt1117.2.1 bt1117.2.2.1))))
end
def spec_l02Column.f (k : Nat) (s0_0 : List Int) (s0_1 : Int) (s0_2 : Int) (a1 : Int) : Option (Int × List Int × (List (S71)) × Int × Int) := (spec_l01Below.f s0_0 s0_1 s0_2 9).bind fun bt1059 => ((some (([] : List Int) : List Int)).bind fun y1062 => ((spec_l01Once.f s0_0 bt1059.2.1 bt1059.2.2 2).bind fun bt1065 => (if bt1065.1 = true then ((spec_l01Below.f s0_0 bt1065.2.1 bt1065.2.2 (wrap64 ((wrap64 (4 + bt1059.1)) - 2))).bind fun bt1068 => (if y1062.length < 17592186044416 then (spec_l02Column.j0 k a1 (wrap64 (4 + bt1059.1)) (y1062 ++ [wrap64 (1 + bt1068.1)]) s0_0 bt1068.2.1 bt1068.2.2) else (none))) else (spec_l02Column.j0 k a1 (wrap64 (4 + bt1059.1)) y1062 s0_0 bt1065.2.1 bt1065.2.2))))
def spec_l02Column.T11 : Bool × List (List Nat × List Nat) := (true, [([], []), ([], []), ([], []), ([2], [2]), ([3], [3]), ([0, 1, 4, 3], [0, 1, 4]), ([5], [5]), ([6], [6]), ([6], [6]), ([6], [6]), ([7, 5, 0, 1, 2, 3, 4, 5, 6, 7], [7])])
def spec_l02Column.B11 : List Nat := [0, 0, 0, 4, 12, 31, 63, 127, 127, 127, 255]
theorem spec_l02Column.tab11 : rtab .any (opsOf Try.f96 11) = spec_l02Column.T11 := by kernel_rfl
theorem spec_l02Column.bits11 : waitsOk spec_l02Column.T11.2 spec_l02Column.B11 = true := by kernel_rfl
def spec_l02Column.T16 : Bool × List (List Nat × List Nat) := (true, [([], []), ([], []), ([], []), ([1, 2], [1, 2]), ([], []), ([4, 3], [4]), ([0, 3, 5, 5], [0, 3, 5]), ([6], [6]), ([7], [7]), ([7], [7]), ([8, 6, 0, 1, 2, 3, 4, 5, 6, 7, 8], [8])])
def spec_l02Column.B16 : List Nat := [0, 0, 0, 6, 0, 30, 63, 127, 255, 255, 511]
theorem spec_l02Column.tab16 : rtab .any (opsOf Try.f96 16) = spec_l02Column.T16 := by kernel_rfl
theorem spec_l02Column.bits16 : waitsOk spec_l02Column.T16.2 spec_l02Column.B16 = true := by kernel_rfl
set_option maxHeartbeats 8000000 in
set_option maxRecDepth 100000 in
theorem spec_l02Column.calls (k : Nat) (g : Nat) (s0_0 : List Int) (s0_1 : Int) (s0_2 : Int) (a1 : Int) (r1 : Int) (r2 : List Int) (r3 : List (S71)) (r4 : Int) (r5 : Int) (w0 w : World) (hI : IsS104 w0 w g s0_0 s0_1 s0_2) (hB : Below w0.heap.size w0 w) (h : spec_l02Column.f k s0_0 s0_1 s0_2 a1 = some (r1, r2, r3, r4, r5)) :
  Calls Try.prog 96 #[.pointer (some ⟨g, 0, none⟩), .int .i64 a1] w fun e w' => ∃ v1_ v2_ : Value, e = .returned (.agg #[.int .i64 r1, v1_, v2_]) ∧ Kd.R (Kd.int .i64) 3 w' w.heap.size (fun _ => True) v1_ r2 ∧ Kd.R k71 71 w' w.heap.size (fun _ => True) v2_ r3 ∧ IsS104 w0 w' g s0_0 r4 r5 ∧ Below w0.heap.size w0 w' ∧ KeepBut w w' g none := by
 have hu30 := Try.underlying30
 have HI0 := Aside0.mk hI
 have HK := Aside0.mk (KeepBut.refl w g none)
 have HL := Aside0.mk hB.size
 clear hI
 have HW0 := Aside0.mk hB.size
 have HB := Aside0.mk hB
 clear hB
 have H : ((spec_l01Below.f s0_0 s0_1 s0_2 9).bind fun bt1059 => ((some (([] : List Int) : List Int)).bind fun y1062 => ((spec_l01Once.f s0_0 bt1059.2.1 bt1059.2.2 2).bind fun bt1065 => (if bt1065.1 = true then ((spec_l01Below.f s0_0 bt1065.2.1 bt1065.2.2 (wrap64 ((wrap64 (4 + bt1059.1)) - 2))).bind fun bt1068 => (if y1062.length < 17592186044416 then (spec_l02Column.j0 k a1 (wrap64 (4 + bt1059.1)) (y1062 ++ [wrap64 (1 + bt1068.1)]) s0_0 bt1068.2.1 bt1068.2.2) else (none))) else (spec_l02Column.j0 k a1 (wrap64 (4 + bt1059.1)) y1062 s0_0 bt1065.2.1 bt1065.2.2))))) = some (r1, r2, r3, r4, r5) := h
 clear h
 replace H := Option.bind_eq_some_iff.mp H
 obtain ⟨⟨t1059, t1060, t1061⟩, A30, H⟩ := H
 try dsimp only at H
 have A3 := Aside0.mk A30
 clear A30
 obtain ⟨y1062, hy1062⟩ : ∃ y_ : List Int, y_ = (([] : List Int)) := ⟨_, rfl⟩
 replace H : ((spec_l01Once.f s0_0 t1060 t1061 2).bind fun bt1065 => (if bt1065.1 = true then ((spec_l01Below.f s0_0 bt1065.2.1 bt1065.2.2 (wrap64 ((wrap64 (4 + t1059)) - 2))).bind fun bt1068 => (if y1062.length < 17592186044416 then (spec_l02Column.j0 k a1 (wrap64 (4 + t1059)) (y1062 ++ [wrap64 (1 + bt1068.1)]) s0_0 bt1068.2.1 bt1068.2.2) else (none))) else (spec_l02Column.j0 k a1 (wrap64 (4 + t1059)) y1062 s0_0 bt1065.2.1 bt1065.2.2))) = some (r1, r2, r3, r4, r5) := by first | (rw [hy1062]; with_reducible exact H) | (have H2_ := (Option.bind_some _ _).symm.trans H; rw [hy1062]; with_reducible exact H2_) | (have H2_ := (Option.bind_some _ _).symm.trans H; with_reducible exact H2_) | with_reducible exact H | (rw [hy1062]; exact H) | exact H
 have Ny1062 := Aside0.mk hy1062
 clear hy1062
 replace H := Option.bind_eq_some_iff.mp H
 obtain ⟨⟨t1065, t1066, t1067⟩, A40, H⟩ := H
 try dsimp only at H
 have A4 := Aside0.mk A40
 clear A40
 have HC5 := Aside0.mk H
 clear H
 go_enter Try.func96, Try.ntmps96
 go_upto_if 16 with (first | ((with_reducible refine gate_dst (N := 4) rfl ?_); refine bx (cs := #[.int .i64 0, .slice none 0 0, .slice none 0 0]) (t := 30) fun gb1058 hg w6 hbox hb => ?_; replace HB := Aside0.mk (below_step (bl104 HB.out) hb); have BK1058 := Aside0.mk (hbox); have GW1058 := Aside0.mk ((ks HK.out hg)); have GE1058 := Aside0.mk ((Nat.le_trans HW0.out (ks HK.out hg) : w0.heap.size ≤ gb1058)); replace HK := Aside0.mk (KeepBut.trans (kp HK.out) (KeepBut.of_below hb g none) (.inl rfl)); have NB0_1058 := Aside0.mk ((by rw [hg]; exact Nat.ne_of_lt (IsS104.lt (show IsS104 w0 _ g s0_0 s0_1 s0_2 from is104 HI0.out)) : g ≠ gb1058)); have NB1058_0 := Aside0.mk ((by rw [hg]; exact Nat.ne_of_gt (IsS104.lt (show IsS104 w0 _ g s0_0 s0_1 s0_2 from is104 HI0.out)) : gb1058 ≠ g)); replace HI0 := Aside0.mk (IsS104.below (is104 HI0.out) hb); clear hb hbox hg) | ((with_reducible refine gate_callee (f := 97) rfl ?_); refine goesL_ (some 12) rfl rfl Try.func97 (by kernel_rfl) rfl #[.pointer (some ⟨g, 0, none⟩), .int .i64 9] rfl mapd ?_; (with_reducible refine (spec_l01Below.calls g s0_0 s0_1 s0_2 9 t1059 t1060 t1061 w0 _ ?side1 ?side2 A3.out).mono ?_); (case side1 => exact is104 HI0.out); (case side2 => exact bl104 HB.out); rintro e w7 ⟨rfl, hi, hb, hk⟩; refine ⟨_, rfl, ?_⟩; replace BK1058 := Aside0.mk (KeepBut.blk hk (g' := gb1058) (o := .cells #[.int .i64 0, .slice none 0 0, .slice none 0 0] 30 (0, 0)) (bk BK1058.out) NB1058_0.out (by simp)); replace HK := Aside0.mk (KeepBut.trans (kp HK.out) hk (.inl rfl)); replace HB := Aside0.mk (hb); replace HI0 := Aside0.mk (hi); (try clear hb); (try clear hb2); (try clear hk); (try clear hi)) | ((with_reducible refine gate_dst (N := 14) rfl ?_); refine Kd.R_lit (Kd.int .i64) _ 3 ?hg (N := 14) ?hd (xs := ([] : List Int)) (inner := []) (ok := fun _ => True) (okp := fun _ => True) ?hr ?hp (fun _ hk => hk) trivial (Below.refl _ _) (Nat.le_refl _) (by simp) ?_; (case hd => rfl); (case hg => rfl); (case hr => first | (go_simp; done) | (go_simp; rfl)); (case hp => exact (Reps.none _ _)); intro v1063 w8 ho9 hb hg_ hnew_; clear hg_ hnew_; (first | rw [← Ny1062.out] at ho9 | (simp only [Int.reduceToNat] at ho9; rw [← Ny1062.out] at ho9)); have HO1064 := Aside0.mk (Kd.R_lower ho9 (keep_size (w := w) (g := g) (row := none) (kp HK.out))); replace HI0 := Aside0.mk (IsS104.below (is104 HI0.out) hb); replace BK1058 := Aside0.mk (bb BK1058.out hb); replace HK := Aside0.mk (KeepBut.trans (kp HK.out) (KeepBut.of_below hb g none) (.inl rfl)); replace HB := Aside0.mk (below_step (bl104 HB.out) hb); clear hb ho9) | ((with_reducible refine gate_callee (f := 101) rfl ?_); refine goesL_ (some 16) rfl rfl Try.func101 (by kernel_rfl) rfl #[.pointer (some ⟨g, 0, none⟩), .int .i64 2] rfl mapd ?_; (with_reducible refine (spec_l01Once.calls g s0_0 t1060 t1061 2 t1065 t1066 t1067 w0 _ ?side1 ?side2 A4.out).mono ?_); (case side1 => exact is104 HI0.out); (case side2 => exact bl104 HB.out); rintro e w10 ⟨rfl, hi, hb, hk⟩; refine ⟨_, rfl, ?_⟩; replace BK1058 := Aside0.mk (KeepBut.blk hk (g' := gb1058) (o := .cells #[.int .i64 0, .slice none 0 0, .slice none 0 0] 30 (0, 0)) (bk BK1058.out) NB1058_0.out (by simp)); replace HO1064 := Aside0.mk (Kd.R_mono (Kd.R_keep (IsS104.apart (show IsS104 w0 _ g s0_0 t1060 t1061 from is104 HI0.out) (rk HO1064.out) (by decide)) hk (fun _ h => h.2)) (fun _ h => h.1)); replace HK := Aside0.mk (KeepBut.trans (kp HK.out) hk (.inl rfl)); replace HB := Aside0.mk (hb); replace HI0 := Aside0.mk (hi); (try clear hb); (try clear hb2); (try clear hk); (try clear hi)))
 (try simp only [Act.put, List.setIfInBounds_toArray, List.set_cons_zero, List.set_cons_succ])
 go_cut [6] (fun v6 wc => ∃ (kq : Nat) (x6_4 : List Int) (x1001_4 : Int) (x1002_4 : Int), Aside0 (spec_l02Column.j0 kq a1 (wrap64 (4 + t1059)) x6_4 s0_0 x1001_4 x1002_4 = some (r1, r2, r3, r4, r5)) ∧ Aside0 (kq ≤ k) ∧ Aside0 (Kd.R (Kd.int .i64) 3 wc w.heap.size (fun _ => True) v6 x6_4) ∧ Aside0 (wc.heap[gb1058]? = some (.cells #[.int .i64 0, (.slice none 0 0), (.slice none 0 0)] 30 (0, 0))) ∧ Aside0 (IsS104 w0 wc g s0_0 x1001_4 x1002_4) ∧ Aside0 (KeepBut w wc g none) ∧ Aside0 (Below w0.heap.size w0 wc))
 case first =>
  have H := HC5.out
  clear HC5
  by_cases c11 : t1065 = true
  ·subst c11
   rw [if_pos rfl] at H
   replace H := Option.bind_eq_some_iff.mp H
   obtain ⟨⟨t1068, t1069, t1070⟩, A120, H⟩ := H
   try dsimp only at H
   have A12 := Aside0.mk A120
   clear A120
   by_cases c13 : y1062.length < 17592186044416
   ·rw [if_pos c13] at H
    have LMc13 := Aside0.mk c13
    clear c13
    obtain ⟨y1071, hy1071⟩ : ∃ y_ : List Int, y_ = (y1062 ++ [wrap64 (1 + t1068)]) := ⟨_, rfl⟩
    replace H : (spec_l02Column.j0 k a1 (wrap64 (4 + t1059)) y1071 s0_0 t1069 t1070) = some (r1, r2, r3, r4, r5) := by first | (rw [hy1071]; with_reducible exact H) | (have H2_ := (Option.bind_some _ _).symm.trans H; rw [hy1071]; with_reducible exact H2_) | (have H2_ := (Option.bind_some _ _).symm.trans H; with_reducible exact H2_) | with_reducible exact H | (rw [hy1071]; exact H) | exact H
    have Ny1071 := Aside0.mk hy1071
    clear hy1071
    have H' := Aside0.mk H
    clear H
    go_wp2_with (first | ((with_reducible refine gate_callee (f := 97) rfl ?_); refine goesL_ (some 21) rfl rfl Try.func97 (by kernel_rfl) rfl #[.pointer (some ⟨g, 0, none⟩), .int .i64 (wrap64 ((wrap64 (4 + t1059)) - 2))] rfl mapd ?_; (with_reducible refine (spec_l01Below.calls g s0_0 t1066 t1067 (wrap64 ((wrap64 (4 + t1059)) - 2)) t1068 t1069 t1070 w0 _ ?side1 ?side2 A12.out).mono ?_); (case side1 => exact is104 HI0.out); (case side2 => exact bl104 HB.out); rintro e w14 ⟨rfl, hi, hb, hk⟩; refine ⟨_, rfl, ?_⟩; replace BK1058 := Aside0.mk (KeepBut.blk hk (g' := gb1058) (o := .cells #[.int .i64 0, .slice none 0 0, .slice none 0 0] 30 (0, 0)) (bk BK1058.out) NB1058_0.out (by simp)); replace HO1064 := Aside0.mk (Kd.R_mono (Kd.R_keep (IsS104.apart (show IsS104 w0 _ g s0_0 t1066 t1067 from is104 HI0.out) (rk HO1064.out) (by decide)) hk (fun _ h => h.2)) (fun _ h => h.1)); replace HK := Aside0.mk (KeepBut.trans (kp HK.out) hk (.inl rfl)); replace HB := Aside0.mk (hb); replace HI0 := Aside0.mk (hi); (try clear hb); (try clear hb2); (try clear hk); (try clear hi)) | ((with_reducible refine gate_builtin (b := .append) (xs := #[.tmp 17, .tmp 23]) rfl ?_); at_builtin; refine Kd.R_append (Kd.int .i64) w.heap.size rfl (.tmp 17) (.tmp 23) 22 3 (.int .i64 0) 8 rfl Try.underlying22 info3 rfl (by decide) (by omega) v1063 y1062 (wrap64 (1 + t1068)) [.int .i64 (wrap64 (1 + t1068))] (fun _ => True) (fun _ => False) rfl rfl ?aP (fun _ hk => hk.elim) ?aF ?aO (Below.refl _ _) ?aS ?aL ?_; (case aP => exact rfl); (case aF => exact (fun _ _ => trivial)); (case aO => exact (rk HO1064.out)); (case aS => exact (keep_size (w := w) (g := g) (row := none) (kp HK.out))); (case aL => have := LMc13.out; omega); intro v1072 w15 ho hb hg hat; rw [← Ny1071.out] at ho; replace HI0 := Aside0.mk (IsS104.grown (is104 HI0.out) hg (IsS104.own_ne HI0.out HO1064.out (by decide))); replace BK1058 := Aside0.mk (blk_grown (g := gb1058) (o := .cells #[.int .i64 0, .slice none 0 0, .slice none 0 0] 30 (0, 0)) (bk BK1058.out) hg (Kd.R_ne HO1064.out BK1058.out (by decide))); replace HB := Aside0.mk (below_weaken (bl104 HB.out) HL.out hb); replace HK := Aside0.mk (KeepBut.trans (kp HK.out) (KeepBut.of_grown hg g) (Kd.R_base2 HO1064.out)); have HO1073 := Aside0.mk (ho); clear HO1064; clear ho hb hg hat))
    go_meet
    case rel => exact ⟨_, (y1071), (t1069), (t1070), H', ⟨by first | omega | exact Nat.le_refl _⟩, ⟨rk HO1073.out⟩, ⟨by refine bk ?_; exact BK1058.out⟩, ⟨is104 HI0.out⟩, ⟨kp HK.out⟩, ⟨bl104 HB.out⟩⟩
   ·rw [if_neg c13] at H
    exact absurd H (by simp)
  ·replace c11 := Bool.eq_false_iff.mpr c11
   subst c11
   rw [if_neg (show ¬ (false = true) by decide)] at H
   have H' := Aside0.mk H
   clear H
   go_wp2
   go_meet
   case rel => exact ⟨_, (y1062), (t1066), (t1067), H', ⟨by first | omega | exact Nat.le_refl _⟩, ⟨rk HO1064.out⟩, ⟨by refine bk ?_; exact BK1058.out⟩, ⟨is104 HI0.out⟩, ⟨kp HK.out⟩, ⟨bl104 HB.out⟩⟩
 case rest =>
  clear HC5
  try clear c1
  try clear p2
  try clear p6
  try clear c9
  try clear c10
  try clear c11
  try clear c13
  obtain ⟨kq, x6_4, x1001_4, x1002_4, HA, HJ4, HO_6, BK1058, HI0, HK, HB⟩ := hcut
  cases kq with
  | zero => exact absurd HA.out (by simp [spec_l02Column.j0])
  | succ kj4 =>
   have H := HA.out
   clear HA
   simp only [spec_l02Column.j0] at H
   replace H := Option.bind_eq_some_iff.mp H
   obtain ⟨⟨t1074, t1075, t1078, t1081⟩, A160, H⟩ := H
   try dsimp only at H
   have A16 := Aside0.mk A160
   clear A160
   replace H := Option.bind_eq_some_iff.mp H
   obtain ⟨⟨t1083, t1084, t1085⟩, A170, H⟩ := H
   try dsimp only at H
   have A17 := Aside0.mk A170
   clear A170
   have H' := Aside0.mk H
   clear H
   obtain ⟨Ao18, co18, eo18⟩ := Kd.R_slice HO_6.out
   subst eo18
   go_wp2_with (first | ((with_reducible refine gate_callee (f := 20) rfl ?_); refine goesL_ (some 28) rfl rfl Try.func20 (by kernel_rfl) rfl #[.int .i64 (wrap64 (4 + t1059)), .slice Ao18 x6_4.length co18] rfl mapd ?_; (with_reducible refine (spec_NewColumn.calls kj4 (wrap64 (4 + t1059)) _ _ x6_4 t1074 t1075 t1078 t1081 _ ?side1 ?side2 A16.out).mono ?_); (case side1 => exact cb ((Kd.R_reads' HO_6.out).2.2)); (case side2 => exact (Kd.R_reads' HO_6.out).2.1); rintro e w19 ⟨v1076, v1079, rfl, ho0, ho1, hb⟩; refine ⟨_, rfl, ?_⟩; have HO1077 := Aside0.mk (Kd.R_lower (Kd.R_new' ho0 (Kd.R_lt (rk HO_6.out))) (keep_size (w := w) (g := g) (row := none) (kp HK.out))); replace HO_6 := Aside0.mk (Kd.R_elder' (rk HO_6.out) (Kd.R_base ho0) hb); have HO1080 := Aside0.mk (Kd.R_lower ho1 (keep_size (w := w) (g := g) (row := none) (kp HK.out))); replace BK1058 := Aside0.mk (bb BK1058.out hb); replace HI0 := Aside0.mk (IsS104.below (is104 HI0.out) hb); replace HK := Aside0.mk (KeepBut.trans (kp HK.out) (KeepBut.of_below hb g none) (.inl rfl)); replace HB := Aside0.mk (below_step (bl104 HB.out) hb); (try clear hb); (try clear hb2); (try clear hk); (try clear hi); (try clear ho0); (try clear ho1)) | ((with_reducible refine gate_dst (N := 7) rfl ?_); refine bx (cs := #[.int .i64 0, .slice none 0 0, .slice none 0 0]) (t := 30) fun gb1082 hg w20 hbox hb => ?_; replace HO_6 := Aside0.mk (Kd.R_below (rk HO_6.out) hb); replace HO1077 := Aside0.mk (Kd.R_below (rk HO1077.out) hb); replace HO1080 := Aside0.mk (Kd.R_below (rk HO1080.out) hb); replace HB := Aside0.mk (below_step (bl104 HB.out) hb); have BK1082 := Aside0.mk (hbox); have GW1082 := Aside0.mk ((ks HK.out hg)); have GE1082 := Aside0.mk ((Nat.le_trans HW0.out (ks HK.out hg) : w0.heap.size ≤ gb1082)); replace HK := Aside0.mk (KeepBut.trans (kp HK.out) (KeepBut.of_below hb g none) (.inl rfl)); have NB1058_1082 := Aside0.mk ((nl BK1058.out hg)); have NB1082_1058 := Aside0.mk ((ng BK1058.out hg)); replace BK1058 := Aside0.mk (bb BK1058.out hb); have NB0_1082 := Aside0.mk ((by rw [hg]; exact Nat.ne_of_lt (IsS104.lt (show IsS104 w0 _ g s0_0 x1001_4 x1002_4 from is104 HI0.out)) : g ≠ gb1082)); have NB1082_0 := Aside0.mk ((by rw [hg]; exact Nat.ne_of_gt (IsS104.lt (show IsS104 w0 _ g s0_0 x1001_4 x1002_4 from is104 HI0.out)) : gb1082 ≠ g)); replace HI0 := Aside0.mk (IsS104.below (is104 HI0.out) hb); clear hb hbox hg; have hnb21 := NB1082_1058.out; have hnc21 := NB1058_1082.out; have hnb22 := NB1082_0.out; have hnc22 := NB0_1082.out; obtain ⟨hcz23_0, hcz23_1, hcz23_2, hfz23_0, hfz23_1, hfz23_2⟩ := cz3 BK1082.out; obtain ⟨Ao24, co24, eo24⟩ := Kd.R_slice HO1077.out; subst eo24; obtain ⟨Ao25, co25, eo25⟩ := Kd.R_slice HO1080.out; subst eo25) | ((with_reducible refine gate_callee (f := 97) rfl ?_); refine goesL_ (some 32) rfl rfl Try.func97 (by kernel_rfl) rfl #[.pointer (some ⟨g, 0, none⟩), .int .i64 7] rfl mapd ?_; (with_reducible refine (spec_l01Below.calls g s0_0 x1001_4 x1002_4 7 t1083 t1084 t1085 w0 _ ?side1 ?side2 A17.out).mono ?_); (case side1 => exact is104 HI0.out); (case side2 => exact bl104 HB.out); rintro e w26 ⟨rfl, hi, hb, hk⟩; refine ⟨_, rfl, ?_⟩; replace HO_6 := Aside0.mk (Kd.R_mono (Kd.R_keep (IsS104.apart (show IsS104 w0 _ g s0_0 x1001_4 x1002_4 from is104 HI0.out) (by refine rk ?_; exact (Kd.R_mono (Kd.R_far (p := ⟨gb1082, 2, none⟩) (Kd.R_far (p := ⟨gb1082, 1, none⟩) (Kd.R_far (p := ⟨gb1082, 0, none⟩) (Kd.R_types HO_6.out BK1082.out (by decide)) (fun _ hk => hk.2) (.int .i64 t1074)) (fun _ hk => hk.2) (.slice Ao24 t1075.length co24)) (fun _ hk => hk.2) (.slice Ao25 t1078.length co25)) (fun _ h_ => h_.1))) (by decide)) hk (fun _ h => h.2)) (fun _ h => h.1)); replace BK1058 := Aside0.mk (KeepBut.blk hk (g' := gb1058) (o := .cells #[.int .i64 0, .slice none 0 0, .slice none 0 0] 30 (0, 0)) (bf BK1058.out) NB1058_0.out (by simp)); replace HO1077 := Aside0.mk (Kd.R_mono (Kd.R_keep (IsS104.apart (show IsS104 w0 _ g s0_0 x1001_4 x1002_4 from is104 HI0.out) (by refine rk ?_; exact (Kd.R_mono (Kd.R_far (p := ⟨gb1082, 2, none⟩) (Kd.R_far (p := ⟨gb1082, 1, none⟩) (Kd.R_far (p := ⟨gb1082, 0, none⟩) (Kd.R_types HO1077.out BK1082.out (by decide)) (fun _ hk => hk.2) (.int .i64 t1074)) (fun _ hk => hk.2) (.slice Ao24 t1075.length co24)) (fun _ hk => hk.2) (.slice Ao25 t1078.length co25)) (fun _ h_ => h_.1))) (by decide)) hk (fun _ h => h.2)) (fun _ h => h.1)); replace HO1080 := Aside0.mk (Kd.R_mono (Kd.R_keep (IsS104.apart (show IsS104 w0 _ g s0_0 x1001_4 x1002_4 from is104 HI0.out) (by refine rk ?_; exact (Kd.R_mono (Kd.R_far (p := ⟨gb1082, 2, none⟩) (Kd.R_far (p := ⟨gb1082, 1, none⟩) (Kd.R_far (p := ⟨gb1082, 0, none⟩) (Kd.R_types HO1080.out BK1082.out (by decide)) (fun _ hk => hk.2) (.int .i64 t1074)) (fun _ hk => hk.2) (.slice Ao24 t1075.length co24)) (fun _ hk => hk.2) (.slice Ao25 t1078.length co25)) (fun _ h_ => h_.1))) (by decide)) hk (fun _ h => h.2)) (fun _ h => h.1)); replace BK1082 := Aside0.mk (KeepBut.blk hk (g' := gb1082) (o := .cells #[.int .i64 t1074, .slice Ao24 t1075.length co24, .slice Ao25 t1078.length co25] 30 (0, 0)) (by refine bk ?_; refine blk_put (cs := #[.int .i64 t1074, .slice Ao24 t1075.length co24, .slice none 0 0]) ?_ 2 _ rfl; refine bk ?_; refine blk_put (cs := #[.int .i64 t1074, .slice none 0 0, .slice none 0 0]) ?_ 1 _ rfl; refine bk ?_; refine blk_put (cs := #[.int .i64 0, .slice none 0 0, .slice none 0 0]) ?_ 0 _ rfl; refine bk ?_; exact BK1082.out) NB1082_0.out (by simp)); replace HK := Aside0.mk (KeepBut.trans (kp HK.out) hk (.inl rfl)); replace HB := Aside0.mk (hb); replace HI0 := Aside0.mk (hi); (try clear hb); (try clear hb2); (try clear hk); (try clear hi)))
   go_loopg [9] kj4 (fun kq v9 w' => ∃ (x9_2 : Int) (x1001_2 : Int) (x1002_2 : Int) (x1083000_2 : Int) (x1083001_2 : List Int) (x1083002_2 : List (S71)) (u1083001 : Value) (u1083002 : Value), v9 = .int .i64 x9_2 ∧ Aside0 (spec_l02Column.l0 kq a1 (wrap64 (4 + t1059)) x9_2 s0_0 x1001_2 x1002_2 x1083000_2 x1083001_2 x1083002_2 = some (r1, r2, r3, r4, r5)) ∧ Aside0 (kq ≤ kj4) ∧ Aside0 (Kd.R (Kd.int .i64) 3 w' w.heap.size (fun _ => True) u1083001 x1083001_2) ∧ Aside0 (Kd.R k71 71 w' w.heap.size (fun _ => True) u1083002 x1083002_2) ∧ Aside0 (w'.heap[gb1058]? = some (.cells #[.int .i64 0, (.slice none 0 0), (.slice none 0 0)] 30 (0, 0))) ∧ Aside0 (w'.heap[gb1082]? = some (.cells #[.int .i64 x1083000_2, u1083001, u1083002] 30 (0, 0))) ∧ Aside0 (IsS104 w0 w' g s0_0 x1001_2 x1002_2) ∧ Aside0 (KeepBut w w' g none) ∧ Aside0 (Below w0.heap.size w0 w'))
   case atStart => exact ⟨(t1083), (t1084), (t1085), (t1074), (t1075), (t1078), (.slice Ao24 t1075.length co24), (.slice Ao25 t1078.length co25), (by first | rfl | (simp; done) | (simp [*]; done)), H', ⟨Nat.le_refl _⟩, ⟨by refine rk ?_; exact Kd.R_mono HO1077.out (fun _ hk => trivial)⟩, ⟨rk HO1080.out⟩, ⟨by refine bk ?_; exact BK1058.out⟩, ⟨by refine bk ?_; exact BK1082.out⟩, ⟨is104 HI0.out⟩, ⟨kp HK.out⟩, ⟨bl104 HB.out⟩⟩
   case round =>
    clear H'
    try clear c1
    try clear c2
    try clear p2
    try clear p6
    try clear c9
    try clear c10
    try clear c11
    try clear c13
    try clear c20
    try clear c21
    try clear c22
    try clear hcz23_0
    try clear hcz23_1
    try clear hcz23_2
    try clear hfz23_0
    try clear hfz23_1
    try clear hfz23_2
    try clear p2
    try clear p6
    obtain ⟨x9_2, x1001_2, x1002_2, x1083000_2, x1083001_2, x1083002_2, u1083001, u1083002, rfl, HA, HK2, HO_1083001, HO_1083002, BK1058, BK1082, HI0, HK, HB⟩ := hrel
    cases gk with
    | zero => exact absurd HA.out (by simp [spec_l02Column.l0])
    | succ k2 =>
     have H := HA.out
     clear HA
     simp only [spec_l02Column.l0] at H
     by_cases c27 : x9_2 > 0
     ·rw [if_pos c27] at H
      have c27b0 : decide (0 < x9_2) = true := decide_eq_true c27
      clear c27
      replace H := Option.bind_eq_some_iff.mp H
      obtain ⟨⟨t1086, t1087, t1088⟩, A280, H⟩ := H
      try dsimp only at H
      have A28 := Aside0.mk A280
      clear A280
      replace H := Option.bind_eq_some_iff.mp H
      obtain ⟨⟨t1089, t1090, t1091⟩, A290, H⟩ := H
      try dsimp only at H
      have A29 := Aside0.mk A290
      clear A290
      have HC30 := Aside0.mk H
      clear H
      go_upto_if 53 with (first | ((with_reducible refine gate_callee (f := 97) rfl ?_); refine goesL_ (some 39) rfl rfl Try.func97 (by kernel_rfl) rfl #[.pointer (some ⟨g, 0, none⟩), .int .i64 6] rfl mapd ?_; (with_reducible refine (spec_l01Below.calls g s0_0 x1001_2 x1002_2 6 t1086 t1087 t1088 w0 _ ?side1 ?side2 A28.out).mono ?_); (case side1 => exact is104 HI0.out); (case side2 => exact bl104 HB.out); rintro e w31 ⟨rfl, hi, hb, hk⟩; refine ⟨_, rfl, ?_⟩; replace HO_1083001 := Aside0.mk (Kd.R_mono (Kd.R_keep (IsS104.apart (show IsS104 w0 _ g s0_0 x1001_2 x1002_2 from is104 HI0.out) (rk HO_1083001.out) (by decide)) hk (fun _ h => h.2)) (fun _ h => h.1)); replace HO_1083002 := Aside0.mk (Kd.R_mono (Kd.R_keep (IsS104.apart (show IsS104 w0 _ g s0_0 x1001_2 x1002_2 from is104 HI0.out) (rk HO_1083002.out) (by decide)) hk (fun _ h => h.2)) (fun _ h => h.1)); replace BK1058 := Aside0.mk (KeepBut.blk hk (g' := gb1058) (o := .cells #[.int .i64 0, .slice none 0 0, .slice none 0 0] 30 (0, 0)) (bk BK1058.out) NB1058_0.out (by simp)); replace BK1082 := Aside0.mk (KeepBut.blk hk (g' := gb1082) (o := .cells #[.int .i64 x1083000_2, u1083001, u1083002] 30 (0, 0)) (bk BK1082.out) NB1082_0.out (by simp)); replace HK := Aside0.mk (KeepBut.trans (kp HK.out) hk (.inl rfl)); replace HB := Aside0.mk (hb); replace HI0 := Aside0.mk (hi); (try clear hb); (try clear hb2); (try clear hk); (try clear hi)) | ((with_reducible refine gate_callee (f := 97) rfl ?_); refine goesL_ (some 42) rfl rfl Try.func97 (by kernel_rfl) rfl #[.pointer (some ⟨g, 0, none⟩), .int .i64 6] rfl mapd ?_; (with_reducible refine (spec_l01Below.calls g s0_0 t1087 t1088 6 t1089 t1090 t1091 w0 _ ?side1 ?side2 A29.out).mono ?_); (case side1 => exact is104 HI0.out); (case side2 => exact bl104 HB.out); rintro e w32 ⟨rfl, hi, hb, hk⟩; refine ⟨_, rfl, ?_⟩; replace HO_1083001 := Aside0.mk (Kd.R_mono (Kd.R_keep (IsS104.apart (show IsS104 w0 _ g s0_0 t1087 t1088 from is104 HI0.out) (rk HO_1083001.out) (by decide)) hk (fun _ h => h.2)) (fun _ h => h.1)); replace HO_1083002 := Aside0.mk (Kd.R_mono (Kd.R_keep (IsS104.apart (show IsS104 w0 _ g s0_0 t1087 t1088 from is104 HI0.out) (rk HO_1083002.out) (by decide)) hk (fun _ h => h.2)) (fun _ h => h.1)); replace BK1058 := Aside0.mk (KeepBut.blk hk (g' := gb1058) (o := .cells #[.int .i64 0, .slice none 0 0, .slice none 0 0] 30 (0, 0)) (bk BK1058.out) NB1058_0.out (by simp)); replace BK1082 := Aside0.mk (KeepBut.blk hk (g' := gb1082) (o := .cells #[.int .i64 x1083000_2, u1083001, u1083002] 30 (0, 0)) (bk BK1082.out) NB1082_0.out (by simp)); replace HK := Aside0.mk (KeepBut.trans (kp HK.out) hk (.inl rfl)); replace HB := Aside0.mk (hb); replace HI0 := Aside0.mk (hi); (try clear hb); (try clear hb2); (try clear hk); (try clear hi)))
      (try simp only [Act.put, List.setIfInBounds_toArray, List.set_cons_zero, List.set_cons_succ])
      go_cut [53] (fun v53 wc => ∃ (kq : Nat) (x53_29 : Bool), v53 = .bool x53_29 ∧ Aside0 (spec_l02Column.j2 kq a1 (wrap64 (4 + t1059)) x9_2 (wrap64 (a1 + t1086)) t1089 x53_29 s0_0 t1090 t1091 x1083000_2 x1083001_2 x1083002_2 = some (r1, r2, r3, r4, r5)) ∧ Aside0 (kq ≤ k2) ∧ Aside0 (Kd.R (Kd.int .i64) 3 wc w.heap.size (fun _ => True) u1083001 x1083001_2) ∧ Aside0 (Kd.R k71 71 wc w.heap.size (fun _ => True) u1083002 x1083002_2) ∧ Aside0 (wc.heap[gb1058]? = some (.cells #[.int .i64 0, (.slice none 0 0), (.slice none 0 0)] 30 (0, 0))) ∧ Aside0 (wc.heap[gb1082]? = some (.cells #[.int .i64 x1083000_2, u1083001, u1083002] 30 (0, 0))) ∧ Aside0 (IsS104 w0 wc g s0_0 t1090 t1091) ∧ Aside0 (KeepBut w wc g none) ∧ Aside0 (Below w0.heap.size w0 wc))
      case first =>
       have H := HC30.out
       clear HC30
       by_cases c33 : t1089 = 0
       ·rw [if_pos c33] at H
        have c33b0 : (t1089 == 0) = true := beq_iff_eq.mpr c33
        have c33b1 : (t1089 != 0) = false := bne_eq_false_iff_eq.mpr c33
        clear c33
        (first | rw [c33b0] | (simp only [i64_w, i32_w]; rw [c33b0]) | skip)
        have H' := Aside0.mk H
        clear H
        go_wp2
        go_meet
        case rel => exact ⟨_, ((t1089 == 0)), (by first | rfl | (simp; done) | (simp [*]; done)), H', ⟨by have := HJ4.out; have := HK2.out; first | omega | exact Nat.le_refl _⟩, ⟨rk HO_1083001.out⟩, ⟨rk HO_1083002.out⟩, ⟨by refine bk ?_; exact BK1058.out⟩, ⟨by refine bk ?_; exact BK1082.out⟩, ⟨is104 HI0.out⟩, ⟨kp HK.out⟩, ⟨bl104 HB.out⟩⟩
       ·rw [if_neg c33] at H
        have c33b0 : (t1089 == 0) = false := beq_eq_false_iff_ne.mpr c33
        have c33b1 : (t1089 != 0) = true := bne_iff_ne.mpr c33
        (first | rw [c33b0] | (simp only [i64_w, i32_w]; rw [c33b0]) | skip)
        have H' := Aside0.mk H
        clear H
        go_wp2
        go_meet
        case rel => exact ⟨_, ((t1089 == 1)), (by first | rfl | (simp; done) | (simp [*]; done)), H', ⟨by have := HJ4.out; have := HK2.out; first | omega | exact Nat.le_refl _⟩, ⟨rk HO_1083001.out⟩, ⟨rk HO_1083002.out⟩, ⟨by refine bk ?_; exact BK1058.out⟩, ⟨by refine bk ?_; exact BK1082.out⟩, ⟨is104 HI0.out⟩, ⟨kp HK.out⟩, ⟨bl104 HB.out⟩⟩
      case rest =>
       clear HC30
       try clear c1
       try clear c2
       try clear p2
       try clear c3
       try clear p6
       try clear c9
       try clear c10
       try clear c11
       try clear c13
       try clear c20
       try clear c21
       try clear c22
       try clear c27
       try clear c27b0
       try clear c33
       try clear c33b0
       try clear c33b1
       try clear hcz23_0
       try clear hcz23_1
       try clear hcz23_2
       try clear hfz23_0
       try clear hfz23_1
       try clear hfz23_2
       try clear p2
       try clear p6
       obtain ⟨kq, x53_29, rfl, HA, HJ29, HO_1083001, HO_1083002, BK1058, BK1082, HI0, HK, HB⟩ := hcut
       cases kq with
       | zero => exact absurd HA.out (by simp [spec_l02Column.j2])
       | succ kj29 =>
        have H := HA.out
        clear HA
        simp only [spec_l02Column.j2] at H
        by_cases c34 : x53_29 = true
        ·subst c34
         rw [if_pos rfl] at H
         replace H := Option.bind_eq_some_iff.mp H
         obtain ⟨⟨t1092, t1093, t1096, t1099⟩, A350, H⟩ := H
         try dsimp only at H
         have A35 := Aside0.mk A350
         clear A350
         have H' := Aside0.mk H
         clear H
         have hnb36 := NB1082_1058.out
         have hnc36 := NB1058_1082.out
         have hnb37 := NB1082_0.out
         have hnc37 := NB0_1082.out
         obtain ⟨hcz38_0, hcz38_1, hcz38_2, hfz38_0, hfz38_1, hfz38_2⟩ := cz3 BK1082.out
         obtain ⟨Ao39, co39, eo39⟩ := Kd.R_slice HO_1083001.out
         subst eo39
         obtain ⟨Ao40, co40, eo40⟩ := Kd.R_slice HO_1083002.out
         subst eo40
         go_wp2_with (first | ((with_reducible refine gate_callee (f := 39) rfl ?_); refine goesL_ (some 59) rfl rfl Try.func39 (by kernel_rfl) rfl #[.agg #[.int .i64 x1083000_2, .slice Ao39 x1083001_2.length co39, .slice Ao40 x1083002_2.length co40], .int .i64 (wrap64 (a1 + t1086))] rfl mapd ?_; (with_reducible refine (spec_TakeOut.calls kj29 x1083000_2 _ _ x1083001_2 _ _ x1083002_2 (wrap64 (a1 + t1086)) t1092 t1093 t1096 t1099 _ ?side1 ?side2 ?side3 ?side4 A35.out).mono ?_); (case side1 => exact cb ((Kd.R_reads' HO_1083001.out).2.2)); (case side2 => exact (Kd.R_reads' HO_1083001.out).2.1); (case side3 => exact cb ((Kd.R_reads' HO_1083002.out).2.2)); (case side4 => exact (Kd.R_reads' HO_1083002.out).2.1); rintro e w41 ⟨v1094, v1097, rfl, ho0, ho1, hb⟩; refine ⟨_, rfl, ?_⟩; have HO1095 := Aside0.mk (Kd.R_lower (Kd.R_new' ho0 (Kd.R_lt (rk HO_1083001.out))) (keep_size (w := w) (g := g) (row := none) (kp HK.out))); replace HO_1083001 := Aside0.mk (Kd.R_elder' (rk HO_1083001.out) (Kd.R_base ho0) hb); have HO1098 := Aside0.mk (Kd.R_lower (Kd.R_new' ho1 (Kd.R_lt (rk HO_1083002.out))) (keep_size (w := w) (g := g) (row := none) (kp HK.out))); replace HO_1083002 := Aside0.mk (Kd.R_elder' (rk HO_1083002.out) (Kd.R_base ho1) hb); replace BK1058 := Aside0.mk (bb BK1058.out hb); replace BK1082 := Aside0.mk (bb BK1082.out hb); replace HI0 := Aside0.mk (IsS104.below (is104 HI0.out) hb); replace HK := Aside0.mk (KeepBut.trans (kp HK.out) (KeepBut.of_below hb g none) (.inl rfl)); replace HB := Aside0.mk (below_step (bl104 HB.out) hb); (try clear hb); (try clear hb2); (try clear hk); (try clear hi); (try clear ho0); (try clear ho1); obtain ⟨hcz42_0, hcz42_1, hcz42_2, hfz42_0, hfz42_1, hfz42_2⟩ := cz3 BK1082.out; obtain ⟨Ao43, co43, eo43⟩ := Kd.R_slice HO1095.out; subst eo43; obtain ⟨Ao44, co44, eo44⟩ := Kd.R_slice HO1098.out; subst eo44))
         go_roundg kj29
         case measure => have := HJ4.out; have := HK2.out; have := HJ29.out; omega
         case rel => exact ⟨(wrap64 (x9_2 - 1)), (t1090), (t1091), (t1092), (t1093), (t1096), (.slice Ao43 t1093.length co43), (.slice Ao44 t1096.length co44), (by first | rfl | (simp; done) | (simp [*]; done)), H', ⟨by have := HJ4.out; have := HK2.out; have := HJ29.out; omega⟩, ⟨by refine rk ?_; exact Kd.R_mono (Kd.R_far (p := ⟨gb1082, 2, none⟩) (Kd.R_far (p := ⟨gb1082, 1, none⟩) (Kd.R_far (p := ⟨gb1082, 0, none⟩) (Kd.R_types HO1095.out BK1082.out (by decide)) (fun _ hk => hk.2) (.int .i64 t1092)) (fun _ hk => hk.2) (.slice Ao43 t1093.length co43)) (fun _ hk => hk.2) (.slice Ao44 t1096.length co44)) (fun _ hk => trivial)⟩, ⟨by refine rk ?_; exact Kd.R_mono (Kd.R_far (p := ⟨gb1082, 2, none⟩) (Kd.R_far (p := ⟨gb1082, 1, none⟩) (Kd.R_far (p := ⟨gb1082, 0, none⟩) (Kd.R_types HO1098.out BK1082.out (by decide)) (fun _ hk => hk.2) (.int .i64 t1092)) (fun _ hk => hk.2) (.slice Ao43 t1093.length co43)) (fun _ hk => hk.2) (.slice Ao44 t1096.length co44)) (fun _ hk => trivial)⟩, ⟨by refine bk ?_; refine blk_far ?_ NB1058_1082.out _; refine bk ?_; refine blk_far ?_ NB1058_1082.out _; refine bk ?_; refine blk_far ?_ NB1058_1082.out _; refine bk ?_; exact BK1058.out⟩, ⟨by refine bk ?_; refine blk_put (cs := #[.int .i64 t1092, .slice Ao43 t1093.length co43, .slice Ao40 x1083002_2.length co40]) ?_ 2 _ rfl; refine bk ?_; refine blk_put (cs := #[.int .i64 t1092, .slice Ao39 x1083001_2.length co39, .slice Ao40 x1083002_2.length co40]) ?_ 1 _ rfl; refine bk ?_; refine blk_put (cs := #[.int .i64 x1083000_2, .slice Ao39 x1083001_2.length co39, .slice Ao40 x1083002_2.length co40]) ?_ 0 _ rfl; refine bk ?_; exact BK1082.out⟩, ⟨is104 HI0.out⟩, ⟨kp HK.out⟩, ⟨bl104 HB.out⟩⟩
        ·replace c34 := Bool.eq_false_iff.mpr c34
         subst c34
         rw [if_neg (show ¬ (false = true) by decide)] at H
         by_cases c45 : t1089 = 2
         ·rw [if_pos c45] at H
          have c45b0 : (t1089 == 2) = true := beq_iff_eq.mpr c45
          have c45b1 : (t1089 != 2) = false := bne_eq_false_iff_eq.mpr c45
          clear c45
          replace H := Option.bind_eq_some_iff.mp H
          obtain ⟨⟨t1100, t1101, t1102⟩, A460, H⟩ := H
          try dsimp only at H
          have A46 := Aside0.mk A460
          clear A460
          replace H := Option.bind_eq_some_iff.mp H
          obtain ⟨⟨t1103, t1104, t1105⟩, A470, H⟩ := H
          try dsimp only at H
          have A47 := Aside0.mk A470
          clear A470
          replace H := Option.bind_eq_some_iff.mp H
          obtain ⟨⟨t1106, t1107, t1110, t1113⟩, A480, H⟩ := H
          try dsimp only at H
          have A48 := Aside0.mk A480
          clear A480
          have H' := Aside0.mk H
          clear H
          try go_wp2
          replace HO_1083001 := Aside0.mk (Kd.R_drew HO_1083001.out)
          replace HO_1083002 := Aside0.mk (Kd.R_drew HO_1083002.out)
          replace BK1058 := Aside0.mk (blk_drew BK1058.out)
          replace BK1082 := Aside0.mk (blk_drew BK1082.out)
          replace HI0 := Aside0.mk (IsS104.drew HI0.out)
          replace HK := Aside0.mk (keep_drew HK.out)
          replace HB := Aside0.mk (below_drew1 HB.out)
          refine start_ (n := 11) (S := fun w' => w'.cell? ⟨gb1082, 0, none⟩ = some (.int .i64 x1083000_2) ∧ w'.cell? ⟨gb1082, 1, none⟩ = some (u1083001) ∧ w'.cell? ⟨gb1082, 2, none⟩ = some (u1083002)) (ds := [10]) #[false, false, false, false, false, false, false, false, false, false, false] (by kernel_rfl) rfl rfl ⟨(blk_cell BK1082.out 0).trans rfl, (blk_cell BK1082.out 1).trans rfl, (blk_cell BK1082.out 2).trans rfl⟩ (fun hHeld => ?_); refine with_tabW spec_l02Column.tab16 spec_l02Column.bits16 (fun HT_ HW_ => ?_)
          generalize wc.drew = w49 at HO_1083001 HO_1083002 BK1058 BK1082 HI0 HK HB hHeld ⊢
          refine puA (i := 1) (N := some 66) HT_.out ?_
          refine puA (i := 2) (N := some 67) HT_.out ?_
          refine puA (i := 4) (N := some 69) HT_.out ?_
          refine tkA3 (i := 0) (N := some 65) HT_.out HW_.out hHeld ?_
          refine onA (i := 3) (N := some 68) HT_.out (fun K hK => ?_)
          refine goes_ Try.func97 (by kernel_rfl) rfl #[.pointer (some ⟨g, 0, none⟩), .int .i64 (wrap64 (4 + t1059))] (by rfl) rfl rfl mapd ?_
          with_reducible refine (spec_l01Below.calls g s0_0 t1090 t1091 (wrap64 (4 + t1059)) t1100 t1101 t1102 w0 _ ?side1 ?side2 A46.out).mono ?_
          (case side1 => exact is104 HI0.out)
          (case side2 => exact bl104 HB.out)
          rintro e w50 ⟨rfl, hi, hb, hk⟩
          refine ⟨_, rfl, ?_⟩
          replace HO_1083001 := Aside0.mk (Kd.R_mono (Kd.R_keep (IsS104.apart (show IsS104 w0 _ g s0_0 t1090 t1091 from is104 HI0.out) (rk HO_1083001.out) (by decide)) hk (fun _ h => h.2)) (fun _ h => h.1))
          replace HO_1083002 := Aside0.mk (Kd.R_mono (Kd.R_keep (IsS104.apart (show IsS104 w0 _ g s0_0 t1090 t1091 from is104 HI0.out) (rk HO_1083002.out) (by decide)) hk (fun _ h => h.2)) (fun _ h => h.1))
          replace BK1058 := Aside0.mk (KeepBut.blk hk (g' := gb1058) (o := .cells #[.int .i64 0, .slice none 0 0, .slice none 0 0] 30 (0, 0)) (bk BK1058.out) NB1058_0.out (by simp))
          replace BK1082 := Aside0.mk (KeepBut.blk hk (g' := gb1082) (o := .cells #[.int .i64 x1083000_2, u1083001, u1083002] 30 (0, 0)) (bk BK1082.out) NB1082_0.out (by simp))
          replace HK := Aside0.mk (KeepBut.trans (kp HK.out) hk (.inl rfl))
          replace HB := Aside0.mk (hb)
          replace HI0 := Aside0.mk (hi)
          (try clear hb)
          (try clear hb2)
          (try clear hk)
          (try clear hi)
          refine hK.out _ _ ⟨(blk_cell BK1082.out 0).trans rfl, (blk_cell BK1082.out 1).trans rfl, (blk_cell BK1082.out 2).trans rfl⟩ (fun hHeld => ?_)
          clear hK K
          refine norm_ (a' := ?_) ?_ ?_
          rotate_left
          ·show Act.put _ (some 68) _ = _
           simp only [Act.put, List.setIfInBounds_toArray, List.set_cons_zero, List.set_cons_succ, i64_w, i32_w]
           rfl
          refine onA (i := 5) (N := some 70) HT_.out (fun K hK => ?_)
          refine goes_ Try.func101 (by kernel_rfl) rfl #[.pointer (some ⟨g, 0, none⟩), .int .i64 3] (by rfl) rfl rfl mapd ?_
          with_reducible refine (spec_l01Once.calls g s0_0 t1101 t1102 3 t1103 t1104 t1105 w0 _ ?side1 ?side2 A47.out).mono ?_
          (case side1 => exact is104 HI0.out)
          (case side2 => exact bl104 HB.out)
          rintro e w51 ⟨rfl, hi, hb, hk⟩
          refine ⟨_, rfl, ?_⟩
          replace HO_1083001 := Aside0.mk (Kd.R_mono (Kd.R_keep (IsS104.apart (show IsS104 w0 _ g s0_0 t1101 t1102 from is104 HI0.out) (rk HO_1083001.out) (by decide)) hk (fun _ h => h.2)) (fun _ h => h.1))
          replace HO_1083002 := Aside0.mk (Kd.R_mono (Kd.R_keep (IsS104.apart (show IsS104 w0 _ g s0_0 t1101 t1102 from is104 HI0.out) (rk HO_1083002.out) (by decide)) hk (fun _ h => h.2)) (fun _ h => h.1))
          replace BK1058 := Aside0.mk (KeepBut.blk hk (g' := gb1058) (o := .cells #[.int .i64 0, .slice none 0 0, .slice none 0 0] 30 (0, 0)) (bk BK1058.out) NB1058_0.out (by simp))
          replace BK1082 := Aside0.mk (KeepBut.blk hk (g' := gb1082) (o := .cells #[.int .i64 x1083000_2, u1083001, u1083002] 30 (0, 0)) (bk BK1082.out) NB1082_0.out (by simp))
          replace HK := Aside0.mk (KeepBut.trans (kp HK.out) hk (.inl rfl))
          replace HB := Aside0.mk (hb)
          replace HI0 := Aside0.mk (hi)
          (try clear hb)
          (try clear hb2)
          (try clear hk)
          (try clear hi)
          obtain ⟨Ao52, co52, eo52⟩ := Kd.R_slice HO_1083001.out
          (first | subst eo52 | (injection eo52 with f1_ f2_ f3_; have f4_ := f1_.symm; have f5_ := f3_.symm; clear f1_ f2_ f3_; subst f4_; subst f5_))
          obtain ⟨Ao53, co53, eo53⟩ := Kd.R_slice HO_1083002.out
          (first | subst eo53 | (injection eo53 with f1_ f2_ f3_; have f4_ := f1_.symm; have f5_ := f3_.symm; clear f1_ f2_ f3_; subst f4_; subst f5_))
          refine hK.out _ _ ⟨(blk_cell BK1082.out 0).trans rfl, (blk_cell BK1082.out 1).trans rfl, (blk_cell BK1082.out 2).trans rfl⟩ (fun hHeld => ?_)
          clear hK K
          refine norm_ (a' := ?_) ?_ ?_
          rotate_left
          ·show Act.put _ (some 70) _ = _
           simp only [Act.put, List.setIfInBounds_toArray, List.set_cons_zero, List.set_cons_succ, i64_w, i32_w]
           rfl
          refine onA (i := 6) (N := some 71) HT_.out (fun K hK => ?_)
          refine goes_ Try.func34 (by kernel_rfl) rfl #[.agg #[.int .i64 x1083000_2, .slice Ao52 x1083001_2.length co52, .slice Ao53 x1083002_2.length co53], .int .i64 t1100, .bool t1103] (by rfl) rfl rfl mapd ?_
          with_reducible refine (spec_SetJam.calls kj29 x1083000_2 _ _ x1083001_2 _ _ x1083002_2 t1100 t1103 t1106 t1107 t1110 t1113 _ ?side1 ?side2 ?side3 ?side4 A48.out).mono ?_
          (case side1 => exact cb ((Kd.R_reads' HO_1083001.out).2.2))
          (case side2 => exact (Kd.R_reads' HO_1083001.out).2.1)
          (case side3 => exact cb ((Kd.R_reads' HO_1083002.out).2.2))
          (case side4 => exact (Kd.R_reads' HO_1083002.out).2.1)
          rintro e w54 ⟨v1108, v1111, rfl, ho0, ho1, hb⟩
          refine ⟨_, rfl, ?_⟩
          have HO1109 := Aside0.mk (Kd.R_lower (Kd.R_new' ho0 (Kd.R_lt (rk HO_1083001.out))) (keep_size (w := w) (g := g) (row := none) (kp HK.out)))
          replace HO_1083001 := Aside0.mk (Kd.R_elder' (rk HO_1083001.out) (Kd.R_base ho0) hb)
          have HO1112 := Aside0.mk (Kd.R_lower (Kd.R_new' ho1 (Kd.R_lt (rk HO_1083002.out))) (keep_size (w := w) (g := g) (row := none) (kp HK.out)))
          replace HO_1083002 := Aside0.mk (Kd.R_elder' (rk HO_1083002.out) (Kd.R_base ho1) hb)
          replace BK1058 := Aside0.mk (bb BK1058.out hb)
          replace BK1082 := Aside0.mk (bb BK1082.out hb)
          replace HI0 := Aside0.mk (IsS104.below (is104 HI0.out) hb)
          replace HK := Aside0.mk (KeepBut.trans (kp HK.out) (KeepBut.of_below hb g none) (.inl rfl))
          replace HB := Aside0.mk (below_step (bl104 HB.out) hb)
          (try clear hb)
          (try clear hb2)
          (try clear hk)
          (try clear hi)
          (try clear ho0)
          (try clear ho1)
          obtain ⟨Ao56, co56, eo56⟩ := Kd.R_slice HO1109.out
          (first | subst eo56 | (injection eo56 with f1_ f2_ f3_; have f4_ := f1_.symm; have f5_ := f3_.symm; clear f1_ f2_ f3_; subst f4_; subst f5_))
          obtain ⟨Ao58, co58, eo58⟩ := Kd.R_slice HO1112.out
          (first | subst eo58 | (injection eo58 with f1_ f2_ f3_; have f4_ := f1_.symm; have f5_ := f3_.symm; clear f1_ f2_ f3_; subst f4_; subst f5_))
          refine hK.out _ _ ⟨(blk_cell BK1082.out 0).trans rfl, (blk_cell BK1082.out 1).trans rfl, (blk_cell BK1082.out 2).trans rfl⟩ (fun hHeld => ?_)
          clear hK K
          refine norm_ (a' := ?_) ?_ ?_
          rotate_left
          ·show Act.put _ (some 71) _ = _
           simp only [Act.put, List.setIfInBounds_toArray, List.set_cons_zero, List.set_cons_succ, i64_w, i32_w]
           rfl
          refine puA (i := 7) (N := some 64) HT_.out ?_
          refine puA (i := 8) (N := some 72) HT_.out ?_
          refine puA (i := 9) (N := some 73) HT_.out ?_
          refine last_ (i := 10) (N := none) #[true, true, true, true, true, true, true, true, true, true, true] rfl rfl (one_of HT_.out (by kernel_rfl)) (by decide) (fun K hK => ?_)
          have hs55 : w54.cell? ⟨gb1082, 0, none⟩ = some (.int .i64 x1083000_2) := (blk_cell BK1082.out 0).trans rfl
          have hfs55 := blk_frozen BK1082.out 0
          have hns55_0 := NB1058_1082.out
          have hms55_0 := NB1082_1058.out
          have hs57 : w54.cell? ⟨gb1082, 1, none⟩ = some (.slice Ao52 x1083001_2.length co52) := (blk_cell BK1082.out 1).trans rfl
          have hfs57 := blk_frozen BK1082.out 1
          have hns57_0 := NB1058_1082.out
          have hms57_0 := NB1082_1058.out
          have hs59 : w54.cell? ⟨gb1082, 2, none⟩ = some (.slice Ao53 x1083002_2.length co53) := (blk_cell BK1082.out 2).trans rfl
          have hfs59 := blk_frozen BK1082.out 2
          have hns59_0 := NB1058_1082.out
          have hms59_0 := NB1082_1058.out
          refine skip_ (w1 := ?_) (by rfl) rfl ?_ ?_
          rotate_left
          ·go_simp
           rfl
          refine hK.out _ _ ?_
          clear hK K
          refine done_ (done_of HT_.out (by kernel_rfl)) ?_
          try go_wp2
          go_roundg kj29
          case measure => have := HJ4.out; have := HK2.out; have := HJ29.out; omega
          case rel => exact ⟨(wrap64 (x9_2 - 1)), (t1104), (t1105), (t1106), (t1107), (t1110), (.slice Ao56 t1107.length co56), (.slice Ao58 t1110.length co58), (by first | rfl | (simp; done) | (simp [*]; done)), H', ⟨by have := HJ4.out; have := HK2.out; have := HJ29.out; omega⟩, ⟨by refine rk ?_; exact Kd.R_mono (Kd.R_far (p := ⟨gb1082, 2, none⟩) (Kd.R_far (p := ⟨gb1082, 1, none⟩) (Kd.R_far (p := ⟨gb1082, 0, none⟩) (Kd.R_types HO1109.out BK1082.out (by decide)) (fun _ hk => hk.2) (.int .i64 t1106)) (fun _ hk => hk.2) (.slice Ao56 t1107.length co56)) (fun _ hk => hk.2) (.slice Ao58 t1110.length co58)) (fun _ hk => trivial)⟩, ⟨by refine rk ?_; exact Kd.R_mono (Kd.R_far (p := ⟨gb1082, 2, none⟩) (Kd.R_far (p := ⟨gb1082, 1, none⟩) (Kd.R_far (p := ⟨gb1082, 0, none⟩) (Kd.R_types HO1112.out BK1082.out (by decide)) (fun _ hk => hk.2) (.int .i64 t1106)) (fun _ hk => hk.2) (.slice Ao56 t1107.length co56)) (fun _ hk => hk.2) (.slice Ao58 t1110.length co58)) (fun _ hk => trivial)⟩, ⟨by refine bk ?_; refine blk_far ?_ NB1058_1082.out _; refine bk ?_; refine blk_far ?_ NB1058_1082.out _; refine bk ?_; refine blk_far ?_ NB1058_1082.out _; refine bk ?_; exact BK1058.out⟩, ⟨by refine bk ?_; refine blk_put (cs := #[.int .i64 t1106, .slice Ao56 t1107.length co56, .slice Ao53 x1083002_2.length co53]) ?_ 2 _ rfl; refine bk ?_; refine blk_put (cs := #[.int .i64 t1106, .slice Ao52 x1083001_2.length co52, .slice Ao53 x1083002_2.length co53]) ?_ 1 _ rfl; refine bk ?_; refine blk_put (cs := #[.int .i64 x1083000_2, .slice Ao52 x1083001_2.length co52, .slice Ao53 x1083002_2.length co53]) ?_ 0 _ rfl; refine bk ?_; exact BK1082.out⟩, ⟨is104 HI0.out⟩, ⟨kp HK.out⟩, ⟨bl104 HB.out⟩⟩
         ·rw [if_neg c45] at H
          have c45b0 : (t1089 == 2) = false := beq_eq_false_iff_ne.mpr c45
          have c45b1 : (t1089 != 2) = true := bne_iff_ne.mpr c45
          replace H := Option.bind_eq_some_iff.mp H
          obtain ⟨⟨t1114, t1115, t1116⟩, A600, H⟩ := H
          try dsimp only at H
          have A60 := Aside0.mk A600
          clear A600
          replace H := Option.bind_eq_some_iff.mp H
          obtain ⟨⟨t1117, t1118, t1121, t1124, t1125⟩, A610, H⟩ := H
          try dsimp only at H
          have A61 := Aside0.mk A610
          clear A610
          have H' := Aside0.mk H
          clear H
          try go_wp2
          replace HO_1083001 := Aside0.mk (Kd.R_drew HO_1083001.out)
          replace HO_1083002 := Aside0.mk (Kd.R_drew HO_1083002.out)
          replace BK1058 := Aside0.mk (blk_drew BK1058.out)
          replace BK1082 := Aside0.mk (blk_drew BK1082.out)
          replace HI0 := Aside0.mk (IsS104.drew HI0.out)
          replace HK := Aside0.mk (keep_drew HK.out)
          replace HB := Aside0.mk (below_drew1 HB.out)
          refine start_ (n := 11) (S := fun w' => w'.cell? ⟨gb1082, 0, none⟩ = some (.int .i64 x1083000_2) ∧ w'.cell? ⟨gb1082, 1, none⟩ = some (u1083001) ∧ w'.cell? ⟨gb1082, 2, none⟩ = some (u1083002)) (ds := [10]) #[false, false, false, false, false, false, false, false, false, false, false] (by kernel_rfl) rfl rfl ⟨(blk_cell BK1082.out 0).trans rfl, (blk_cell BK1082.out 1).trans rfl, (blk_cell BK1082.out 2).trans rfl⟩ (fun hHeld => ?_); refine with_tabW spec_l02Column.tab11 spec_l02Column.bits11 (fun HT_ HW_ => ?_)
          generalize wc.drew = w62 at HO_1083001 HO_1083002 BK1058 BK1082 HI0 HK HB hHeld ⊢
          refine puA (i := 1) (N := some 45) HT_.out ?_
          refine puA (i := 2) (N := some 46) HT_.out ?_
          refine tkA3 (i := 0) (N := some 44) HT_.out HW_.out hHeld ?_
          refine onA (i := 3) (N := some 47) HT_.out (fun K hK => ?_)
          refine goes_ Try.func97 (by kernel_rfl) rfl #[.pointer (some ⟨g, 0, none⟩), .int .i64 4] (by rfl) rfl rfl mapd ?_
          with_reducible refine (spec_l01Below.calls g s0_0 t1090 t1091 4 t1114 t1115 t1116 w0 _ ?side1 ?side2 A60.out).mono ?_
          (case side1 => exact is104 HI0.out)
          (case side2 => exact bl104 HB.out)
          rintro e w63 ⟨rfl, hi, hb, hk⟩
          refine ⟨_, rfl, ?_⟩
          replace HO_1083001 := Aside0.mk (Kd.R_mono (Kd.R_keep (IsS104.apart (show IsS104 w0 _ g s0_0 t1090 t1091 from is104 HI0.out) (rk HO_1083001.out) (by decide)) hk (fun _ h => h.2)) (fun _ h => h.1))
          replace HO_1083002 := Aside0.mk (Kd.R_mono (Kd.R_keep (IsS104.apart (show IsS104 w0 _ g s0_0 t1090 t1091 from is104 HI0.out) (rk HO_1083002.out) (by decide)) hk (fun _ h => h.2)) (fun _ h => h.1))
          replace BK1058 := Aside0.mk (KeepBut.blk hk (g' := gb1058) (o := .cells #[.int .i64 0, .slice none 0 0, .slice none 0 0] 30 (0, 0)) (bk BK1058.out) NB1058_0.out (by simp))
          replace BK1082 := Aside0.mk (KeepBut.blk hk (g' := gb1082) (o := .cells #[.int .i64 x1083000_2, u1083001, u1083002] 30 (0, 0)) (bk BK1082.out) NB1082_0.out (by simp))
          replace HK := Aside0.mk (KeepBut.trans (kp HK.out) hk (.inl rfl))
          replace HB := Aside0.mk (hb)
          replace HI0 := Aside0.mk (hi)
          (try clear hb)
          (try clear hb2)
          (try clear hk)
          (try clear hi)
          obtain ⟨Ao64, co64, eo64⟩ := Kd.R_slice HO_1083001.out
          (first | subst eo64 | (injection eo64 with f1_ f2_ f3_; have f4_ := f1_.symm; have f5_ := f3_.symm; clear f1_ f2_ f3_; subst f4_; subst f5_))
          obtain ⟨Ao65, co65, eo65⟩ := Kd.R_slice HO_1083002.out
          (first | subst eo65 | (injection eo65 with f1_ f2_ f3_; have f4_ := f1_.symm; have f5_ := f3_.symm; clear f1_ f2_ f3_; subst f4_; subst f5_))
          refine hK.out _ _ ⟨(blk_cell BK1082.out 0).trans rfl, (blk_cell BK1082.out 1).trans rfl, (blk_cell BK1082.out 2).trans rfl⟩ (fun hHeld => ?_)
          clear hK K
          refine norm_ (a' := ?_) ?_ ?_
          rotate_left
          ·show Act.put _ (some 47) _ = _
           simp only [Act.put, List.setIfInBounds_toArray, List.set_cons_zero, List.set_cons_succ, i64_w, i32_w]
           rfl
          refine puA (i := 4) (N := some 48) HT_.out ?_
          refine onA (i := 5) (N := some 49) HT_.out (fun K hK => ?_)
          refine goes_ Try.func102 (by kernel_rfl) rfl #[.agg #[.int .i64 x1083000_2, .slice Ao64 x1083001_2.length co64, .slice Ao65 x1083002_2.length co65], .int .i64 (wrap64 (a1 + t1086)), .int .i64 (wrap64 (1 + t1114))] (by rfl) rfl rfl mapd ?_
          with_reducible refine (spec_PutIn.calls kj29 x1083000_2 _ _ x1083001_2 _ _ x1083002_2 (wrap64 (a1 + t1086)) (wrap64 (1 + t1114)) t1117 t1118 t1121 t1124 t1125 _ ?side1 ?side2 ?side3 ?side4 A61.out).mono ?_
          (case side1 => exact cb ((Kd.R_reads' HO_1083001.out).2.2))
          (case side2 => exact (Kd.R_reads' HO_1083001.out).2.1)
          (case side3 => exact cb ((Kd.R_reads' HO_1083002.out).2.2))
          (case side4 => exact (Kd.R_reads' HO_1083002.out).2.1)
          rintro e w66 ⟨v1119, v1122, rfl, ho0, ho1, hb⟩
          refine ⟨_, rfl, ?_⟩
          have HO1120 := Aside0.mk (Kd.R_lower (Kd.R_new' ho0 (Kd.R_lt (rk HO_1083001.out))) (keep_size (w := w) (g := g) (row := none) (kp HK.out)))
          replace HO_1083001 := Aside0.mk (Kd.R_elder' (rk HO_1083001.out) (Kd.R_base ho0) hb)
          have HO1123 := Aside0.mk (Kd.R_lower (Kd.R_new' ho1 (Kd.R_lt (rk HO_1083002.out))) (keep_size (w := w) (g := g) (row := none) (kp HK.out)))
          replace HO_1083002 := Aside0.mk (Kd.R_elder' (rk HO_1083002.out) (Kd.R_base ho1) hb)
          replace BK1058 := Aside0.mk (bb BK1058.out hb)
          replace BK1082 := Aside0.mk (bb BK1082.out hb)
          replace HI0 := Aside0.mk (IsS104.below (is104 HI0.out) hb)
          replace HK := Aside0.mk (KeepBut.trans (kp HK.out) (KeepBut.of_below hb g none) (.inl rfl))
          replace HB := Aside0.mk (below_step (bl104 HB.out) hb)
          (try clear hb)
          (try clear hb2)
          (try clear hk)
          (try clear hi)
          (try clear ho0)
          (try clear ho1)
          obtain ⟨Ao68, co68, eo68⟩ := Kd.R_slice HO1120.out
          (first | subst eo68 | (injection eo68 with f1_ f2_ f3_; have f4_ := f1_.symm; have f5_ := f3_.symm; clear f1_ f2_ f3_; subst f4_; subst f5_))
          obtain ⟨Ao70, co70, eo70⟩ := Kd.R_slice HO1123.out
          (first | subst eo70 | (injection eo70 with f1_ f2_ f3_; have f4_ := f1_.symm; have f5_ := f3_.symm; clear f1_ f2_ f3_; subst f4_; subst f5_))
          refine hK.out _ _ ⟨(blk_cell BK1082.out 0).trans rfl, (blk_cell BK1082.out 1).trans rfl, (blk_cell BK1082.out 2).trans rfl⟩ (fun hHeld => ?_)
          clear hK K
          refine norm_ (a' := ?_) ?_ ?_
          rotate_left
          ·show Act.put _ (some 49) _ = _
           simp only [Act.put, List.setIfInBounds_toArray, List.set_cons_zero, List.set_cons_succ, i64_w, i32_w]
           rfl
          refine puA (i := 6) (N := some 43) HT_.out ?_
          refine puA (i := 7) (N := some 50) HT_.out ?_
          refine puA (i := 8) (N := some 51) HT_.out ?_
          refine puA (i := 9) (N := some 52) HT_.out ?_
          refine last_ (i := 10) (N := none) #[true, true, true, true, true, true, true, true, true, true, true] rfl rfl (one_of HT_.out (by kernel_rfl)) (by decide) (fun K hK => ?_)
          have hs67 : w66.cell? ⟨gb1082, 0, none⟩ = some (.int .i64 x1083000_2) := (blk_cell BK1082.out 0).trans rfl
          have hfs67 := blk_frozen BK1082.out 0
          have hns67_0 := NB1058_1082.out
          have hms67_0 := NB1082_1058.out
          have hs69 : w66.cell? ⟨gb1082, 1, none⟩ = some (.slice Ao64 x1083001_2.length co64) := (blk_cell BK1082.out 1).trans rfl
          have hfs69 := blk_frozen BK1082.out 1
          have hns69_0 := NB1058_1082.out
          have hms69_0 := NB1082_1058.out
          have hs71 : w66.cell? ⟨gb1082, 2, none⟩ = some (.slice Ao65 x1083002_2.length co65) := (blk_cell BK1082.out 2).trans rfl
          have hfs71 := blk_frozen BK1082.out 2
          have hns71_0 := NB1058_1082.out
          have hms71_0 := NB1082_1058.out
          refine skip_ (w1 := ?_) (by rfl) rfl ?_ ?_
          rotate_left
          ·go_simp
           rfl
          refine hK.out _ _ ?_
          clear hK K
          refine done_ (done_of HT_.out (by kernel_rfl)) ?_
          try go_wp2
          go_roundg kj29
          case measure => have := HJ4.out; have := HK2.out; have := HJ29.out; omega
          case rel => exact ⟨(wrap64 (x9_2 - 1)), (t1115), (t1116), (t1117), (t1118), (t1121), (.slice Ao68 t1118.length co68), (.slice Ao70 t1121.length co70), (by first | rfl | (simp; done) | (simp [*]; done)), H', ⟨by have := HJ4.out; have := HK2.out; have := HJ29.out; omega⟩, ⟨by refine rk ?_; exact Kd.R_mono (Kd.R_far (p := ⟨gb1082, 2, none⟩) (Kd.R_far (p := ⟨gb1082, 1, none⟩) (Kd.R_far (p := ⟨gb1082, 0, none⟩) (Kd.R_types HO1120.out BK1082.out (by decide)) (fun _ hk => hk.2) (.int .i64 t1117)) (fun _ hk => hk.2) (.slice Ao68 t1118.length co68)) (fun _ hk => hk.2) (.slice Ao70 t1121.length co70)) (fun _ hk => trivial)⟩, ⟨by refine rk ?_; exact Kd.R_mono (Kd.R_far (p := ⟨gb1082, 2, none⟩) (Kd.R_far (p := ⟨gb1082, 1, none⟩) (Kd.R_far (p := ⟨gb1082, 0, none⟩) (Kd.R_types HO1123.out BK1082.out (by decide)) (fun _ hk => hk.2) (.int .i64 t1117)) (fun _ hk => hk.2) (.slice Ao68 t1118.length co68)) (fun _ hk => hk.2) (.slice Ao70 t1121.length co70)) (fun _ hk => trivial)⟩, ⟨by refine bk ?_; refine blk_far ?_ NB1058_1082.out _; refine bk ?_; refine blk_far ?_ NB1058_1082.out _; refine bk ?_; refine blk_far ?_ NB1058_1082.out _; refine bk ?_; exact BK1058.out⟩, ⟨by refine bk ?_; refine blk_put (cs := #[.int .i64 t1117, .slice Ao68 t1118.length co68, .slice Ao65 x1083002_2.length co65]) ?_ 2 _ rfl; refine bk ?_; refine blk_put (cs := #[.int .i64 t1117, .slice Ao64 x1083001_2.length co64, .slice Ao65 x1083002_2.length co65]) ?_ 1 _ rfl; refine bk ?_; refine blk_put (cs := #[.int .i64 x1083000_2, .slice Ao64 x1083001_2.length co64, .slice Ao65 x1083002_2.length co65]) ?_ 0 _ rfl; refine bk ?_; exact BK1082.out⟩, ⟨is104 HI0.out⟩, ⟨kp HK.out⟩, ⟨bl104 HB.out⟩⟩
     ·rw [if_neg c27] at H
      have c27b0 : decide (0 < x9_2) = false := decide_eq_false c27
      clear c27
      simp only [Option.some.injEq, Prod.mk.injEq] at H
      obtain ⟨rfl, rfl, rfl, rfl, rfl⟩ := H
      have hnb72 := NB1082_1058.out
      have hnc72 := NB1058_1082.out
      have hnb73 := NB1082_0.out
      have hnc73 := NB0_1082.out
      obtain ⟨hcz74_0, hcz74_1, hcz74_2, hfz74_0, hfz74_1, hfz74_2⟩ := cz3 BK1082.out
      have hnb75 := NB1058_0.out
      have hnc75 := NB0_1058.out
      obtain ⟨hcz76_0, hcz76_1, hcz76_2, hfz76_0, hfz76_1, hfz76_2⟩ := cz3 BK1058.out
      obtain ⟨Ao77, co77, eo77⟩ := Kd.R_slice HO_1083001.out
      subst eo77
      obtain ⟨Ao78, co78, eo78⟩ := Kd.R_slice HO_1083002.out
      subst eo78
      go_wp2
      refine bodyPost_ret (results_cell_row rfl _ _ gb1058 30 #[.int .i64 x1083000_2, .slice Ao77 x1083001_2.length co77, .slice Ao78 x1083002_2.length co78] (0, 0) _ rfl (by refine bk ?_; refine blk_put (cs := #[.int .i64 x1083000_2, .slice Ao77 x1083001_2.length co77, .slice none 0 0]) ?_ 2 _ rfl; refine bk ?_; refine blk_put (cs := #[.int .i64 x1083000_2, .slice none 0 0, .slice none 0 0]) ?_ 1 _ rfl; refine bk ?_; refine blk_put (cs := #[.int .i64 0, .slice none 0 0, .slice none 0 0]) ?_ 0 _ rfl; refine bk ?_; exact BK1058.out) Try.underlying30 rfl (by kernel_rfl)) rfl ?_
      exact ⟨_, _, by first | rfl | (simp [errW_none, errW_some] <;> rfl) | (simp [*, errW_none, errW_some] <;> rfl), by refine rk ?_; exact Kd.R_mono (Kd.R_far (p := ⟨gb1058, 2, none⟩) (Kd.R_far (p := ⟨gb1058, 1, none⟩) (Kd.R_far (p := ⟨gb1058, 0, none⟩) (Kd.R_types HO_1083001.out BK1058.out (by decide)) (fun _ hk => hk.2) (.int .i64 x1083000_2)) (fun _ hk => hk.2) (.slice Ao77 x1083001_2.length co77)) (fun _ hk => hk.2) (.slice Ao78 x1083002_2.length co78)) (fun _ hk => trivial), by refine rk ?_; exact Kd.R_mono (Kd.R_far (p := ⟨gb1058, 2, none⟩) (Kd.R_far (p := ⟨gb1058, 1, none⟩) (Kd.R_far (p := ⟨gb1058, 0, none⟩) (Kd.R_types HO_1083002.out BK1058.out (by decide)) (fun _ hk => hk.2) (.int .i64 x1083000_2)) (fun _ hk => hk.2) (.slice Ao77 x1083001_2.length co77)) (fun _ hk => hk.2) (.slice Ao78 x1083002_2.length co78)) (fun _ hk => trivial), is104 HI0.out, bl104 HB.out, kp HK.out⟩
end Go.Proofs.Ytghfeapncmlihaa.A

namespace Go.Proofs.Ytghfeapncmlihaa.A
open Go.RowKit Go.Proofs.YtghfeapncmlihaaW.PrintWords Go.Proofs.YtghfeapncmlihaaW.PrintLast Go.Proofs.YtghfeapncmlihaaW.PrintMore
attribute [local go_sem] max2_int min2_int max_two min_two max_three min_three max_four min_four   
set_option linter.unusedVariables false
set_option linter.unusedSimpArgs false
def spec_l01PickInt.f (s0_0 : List Int) (s0_1 : Int) (s0_2 : Int) (l1 : List Int) : Option (Int × Int × Int) := (spec_l01Below.f s0_0 s0_1 s0_2 (l1.length : Int)).bind fun bt1126 => (if 0 ≤ bt1126.1 then (if bt1126.1 < (l1.length : Int) then (some (rd l1 bt1126.1, bt1126.2.1, bt1126.2.2)) else (none)) else (none))
set_option maxHeartbeats 8000000 in
set_option maxRecDepth 100000 in
theorem spec_l01PickInt.calls (g : Nat) (s0_0 : List Int) (s0_1 : Int) (s0_2 : Int) (A1 : Option Addr) (c1 : Nat) (l1 : List Int) (r1 : Int) (r2 : Int) (r3 : Int) (w0 w : World) (hI : IsS104 w0 w g s0_0 s0_1 s0_2) (hB : Below w0.heap.size w0 w) (hr1 : Kd.C (Kd.int .i64) w A1 l1.length l1) (hc1 : l1.length ≤ c1) (hf1 : ∀ ad, A1 = some ad → 0 < l1.length → ad.block ≠ g) (h : spec_l01PickInt.f s0_0 s0_1 s0_2 l1 = some (r1, r2, r3)) :
  Calls Try.prog 98 #[.pointer (some ⟨g, 0, none⟩), .slice A1 l1.length c1] w fun e w' => e = .returned (.int .i64 r1) ∧ IsS104 w0 w' g s0_0 r2 r3 ∧ Below w0.heap.size w0 w' ∧ KeepBut w w' g none := by
 have HR1 := Aside0.mk hr1
 have HC1 := Aside0.mk hc1
 clear hr1 hc1
 have HI0 := Aside0.mk hI
 have HK := Aside0.mk (KeepBut.refl w g none)
 have HL := Aside0.mk hB.size
 clear hI
 have HW0 := Aside0.mk hB.size
 have HB := Aside0.mk hB
 clear hB
 have H : ((spec_l01Below.f s0_0 s0_1 s0_2 (l1.length : Int)).bind fun bt1126 => (if 0 ≤ bt1126.1 then (if bt1126.1 < (l1.length : Int) then (some (rd l1 bt1126.1, bt1126.2.1, bt1126.2.2)) else (none)) else (none))) = some (r1, r2, r3) := h
 clear h
 replace H := Option.bind_eq_some_iff.mp H
 obtain ⟨⟨t1126, t1127, t1128⟩, A30, H⟩ := H
 try dsimp only at H
 have A3 := Aside0.mk A30
 clear A30
 by_cases c4 : 0 ≤ t1126
 ·rw [if_pos c4] at H
  have c4b0 : decide (0 ≤ t1126) = true := decide_eq_true c4
  clear c4
  by_cases c5 : t1126 < (l1.length : Int)
  ·rw [if_pos c5] at H
   have c5b0 : decide (t1126 < (l1.length : Int)) = true := decide_eq_true c5
   clear c5
   simp only [Option.some.injEq, Prod.mk.injEq] at H
   obtain ⟨rfl, rfl, rfl⟩ := H
   go_enter Try.func98, Try.ntmps98
   go_wp2_with (first | ((with_reducible refine gate_callee (f := 97) rfl ?_); refine goesL_ (some 9) rfl rfl Try.func97 (by kernel_rfl) rfl #[.pointer (some ⟨g, 0, none⟩), .int .i64 (l1.length : Int)] rfl mapd ?_; (with_reducible refine (spec_l01Below.calls g s0_0 s0_1 s0_2 (l1.length : Int) t1126 t1127 t1128 w0 _ ?side1 ?side2 A3.out).mono ?_); (case side1 => exact is104 HI0.out); (case side2 => exact bl104 HB.out); rintro e w6 ⟨rfl, hi, hb, hk⟩; refine ⟨_, rfl, ?_⟩; replace HK := Aside0.mk (KeepBut.trans (kp HK.out) hk (.inl rfl)); replace HB := Aside0.mk (hb); replace HI0 := Aside0.mk (hi); (try clear hb); (try clear hb2); (try clear hk); (try clear hi); have p1129 : 0 ≤ (t1126 : Int) := of_decide_eq_true asm; have q1129 : t1126 < (l1.length : Int) := of_decide_eq_true asm; obtain ⟨ad1129, e1129, hx1129_0⟩ := Kd.at_int HR1.out t1126 p1129 q1129; cases e1129; replace hx1129_0 := keep_cell HK.out hx1129_0 (by first | (rw [add_block]; exact hf1 _ rfl (by omega)) | exact hf1 _ rfl (by omega) | exact hf1 ad1129 rfl (by omega)); replace p1129 := eq_true p1129; replace q1129 := eq_true q1129))
   go_ret
   exact ⟨by first | rfl | (simp [errW_none, errW_some] <;> rfl) | (simp [*, errW_none, errW_some] <;> rfl), is104 HI0.out, bl104 HB.out, kp HK.out⟩
  ·rw [if_neg c5] at H
   exact absurd H (by simp)
 ·rw [if_neg c4] at H
  exact absurd H (by simp)
end Go.Proofs.Ytghfeapncmlihaa.A
