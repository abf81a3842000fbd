/- Used by the law FnBoxes. -/
import Derived.Test.YtbpjidekjogfeaaZFnBoxesx16
import Derived.Test.YtbpjidekjogfeaaZFnBoxesx18
import Derived.Test.YtbpjidekjogfeaaZFnBoxesx19
import Derived.Test.YtbpjidekjogfeaaZFnBoxesx20
import Derived.Test.YtbpjidekjogfeaaZFnBoxesx21
import Derived.Test.YtbpjidekjogfeaaZFnBoxesx22
import Derived.Test.YtbpjidekjogfeaaZFnBoxesh
namespace Go.Proofs.Ytbpjidekjogfeaa.A
open Go.RowKit Go.Proofs.YtbpjidekjogfeaaW.PrintWords Go.Proofs.YtbpjidekjogfeaaW.PrintLast Go.Proofs.YtbpjidekjogfeaaW.PrintMore
attribute [local go_sem] max2_int min2_int max_two min_two max_three min_three max_four min_four   
set_option linter.unusedVariables false
set_option linter.unusedSimpArgs false
mutual
def spec_SetJam.l0 : Nat → Int → Bool → Int → Int → List Int → List (S98) → Int → List Int → List (S98) → Option (Int × List Int × (List (S98)) × Bool)
 | 0, _, _, _, _, _, _, _, _, _ => none
 | k + 1, x1, x2, x9, x541000, x541001, x541002, x550000, x550001, x550002 => if x9 < (x541002.length : Int) then ((spec_ColumnOk.f k x541000 x541001 x541002).bind fun t550 => (spec_SetJam.j1 k x1 x2 x9 t550 x541000 x541001 x541002 x550000 x550001 x550002)) else (spec_SetJam.j1 k x1 x2 x9 false x541000 x541001 x541002 x550000 x550001 x550002)
def spec_SetJam.j1 : Nat → Int → Bool → Int → Bool → Int → List Int → List (S98) → Int → List Int → List (S98) → Option (Int × List Int × (List (S98)) × Bool)
 | 0, _, _, _, _, _, _, _, _, _, _ => none
 | k + 1, x1, x2, x9, x20, x541000, x541001, x541002, x550000, x550001, x550002 => if x20 = true then (if 0 ≤ x9 then (if x9 < (x541002.length : Int) then ((spec_l01In.f x1 ((rd_T98 x541002 x9).f0) (wrap64 ((wrap64 (((rd_T98 x541002 x9).f0) + ((rd_T98 x541002 x9).f1))) - 1))).bind fun t554 => (if t554 = true then (if x9 < (x550002.length : Int) then (some (x550000, x550001, (x550002.set (x9 : Int).toNat (⟨(rd_T98 x550002 x9).f0, (rd_T98 x550002 x9).f1, (rd_T98 x550002 x9).f2, x2⟩ : S98)), true)) else (none)) else (spec_SetJam.l0 k x1 x2 (wrap64 (x9 + 1)) x541000 x541001 x541002 x550000 x550001 x550002))) else (none)) else (none)) else (some (x550000, x550001, x550002, false))
end
def spec_SetJam.f (k : Nat) (a0_0 : Int) (l0_1 : List Int) (l0_2 : List (S98)) (a1 : Int) (a2 : Bool) : Option (Int × List Int × (List (S98)) × Bool) := (spec_l02Copy.f a0_0 l0_1 l0_2).bind fun bt542 => (spec_SetJam.l0 k a1 a2 0 a0_0 l0_1 l0_2 bt542.1 bt542.2.1 bt542.2.2)
set_option maxHeartbeats 8000000 in
set_option maxRecDepth 100000 in
theorem spec_SetJam.calls (k : Nat) (a0_0 : Int) (A0_1 : Option Addr) (c0_1 : Nat) (l0_1 : List Int) (A0_2 : Option Addr) (c0_2 : Nat) (l0_2 : List (S98)) (a1 : Int) (a2 : Bool) (r1 : Int) (r2 : List Int) (r3 : List (S98)) (r4 : Bool) (w : World) (hr0_1 : Kd.C (Kd.int .i64) w A0_1 l0_1.length l0_1) (hc0_1 : l0_1.length ≤ c0_1) (hr0_2 : Kd.C k98 w A0_2 l0_2.length l0_2) (hc0_2 : l0_2.length ≤ c0_2) (h : spec_SetJam.f k a0_0 l0_1 l0_2 a1 a2 = some (r1, r2, r3, r4)) :
  Calls Try.prog 125 #[.agg #[.int .i64 a0_0, .slice A0_1 l0_1.length c0_1, .slice A0_2 l0_2.length c0_2], .int .i64 a1, .bool a2] w fun e w' => ∃ v1_ v2_ : Value, e = .returned (.tuple #[.agg #[.int .i64 r1, v1_, v2_], .bool r4]) ∧ Kd.R (Kd.int .i64) 3 w' w.heap.size (fun _ => True) v1_ r2 ∧ Kd.R k98 98 w' w.heap.size (fun _ => True) v2_ r3 ∧ Below w.heap.size w w' := by
 have hu41 := Try.underlying41
 have HR0_1 := Aside0.mk hr0_1
 have HC0_1 := Aside0.mk hc0_1
 clear hr0_1 hc0_1
 have HR0_2 := Aside0.mk hr0_2
 have HC0_2 := Aside0.mk hc0_2
 clear hr0_2 hc0_2
 have HB := Aside0.mk (Below.refl w.heap.size w)
 have H : ((spec_l02Copy.f a0_0 l0_1 l0_2).bind fun bt542 => (spec_SetJam.l0 k a1 a2 0 a0_0 l0_1 l0_2 bt542.1 bt542.2.1 bt542.2.2)) = some (r1, r2, r3, r4) := h
 clear h
 replace H := Option.bind_eq_some_iff.mp H
 obtain ⟨⟨t542, t543, t546⟩, A40, H⟩ := H
 try dsimp only at H
 have A4 := Aside0.mk A40
 clear A40
 have H' := Aside0.mk H
 clear H
 go_enter Try.func125, Try.ntmps125
 go_wp2_with (first | ((with_reducible refine gate_dst (N := 3) rfl ?_); refine bx (cs := #[.int .i64 a0_0, .slice A0_1 l0_1.length c0_1, .slice A0_2 l0_2.length c0_2]) (t := 41) fun gb540 hg w5 hbox hb => ?_; have BK540 := Aside0.mk (hbox); have GW540 := Aside0.mk (gs HB.out hg); have GE540 := Aside0.mk (gs HB.out hg); replace HB := Aside0.mk (below_step (bl HB.out) hb); clear hb hbox hg) | ((with_reducible refine gate_dst (N := 6) rfl ?_); refine bx (cs := #[.int .i64 0, .slice none 0 0, .slice none 0 0]) (t := 41) fun gb541 hg w6 hbox hb => ?_; have BK541 := Aside0.mk (hbox); have GW541 := Aside0.mk (gs HB.out hg); have GE541 := Aside0.mk (gs HB.out hg); replace HB := Aside0.mk (below_step (bl HB.out) hb); have NB540_541 := Aside0.mk ((nl BK540.out hg)); have NB541_540 := Aside0.mk ((ng BK540.out hg)); replace BK540 := Aside0.mk (bb BK540.out hb); clear hb hbox hg; have hnb7 := NB540_541.out; have hnc7 := NB541_540.out; obtain ⟨hcz8_0, hcz8_1, hcz8_2, hfz8_0, hfz8_1, hfz8_2⟩ := cz3 BK540.out) | (go_at_call 86; (with_reducible refine (spec_l02Copy.calls a0_0 _ _ l0_1 _ _ l0_2 t542 t543 t546 _ ?side1 ?side2 ?side3 ?side4 A4.out).mono ?_); (case side1 => exact cb (Kd.C_below HR0_1.out HB.out)); (case side2 => exact HC0_1.out); (case side3 => exact cb (Kd.C_below HR0_2.out HB.out)); (case side4 => exact HC0_2.out); rintro e w9 ⟨v544, v547, rfl, ho0, ho1, hb⟩; have HO545 := Aside0.mk (Kd.R_lower ho0 (below_size (bl HB.out))); have HO548 := Aside0.mk (Kd.R_lower ho1 (below_size (bl HB.out))); replace BK540 := Aside0.mk (bb BK540.out hb); replace BK541 := Aside0.mk (bb BK541.out hb); replace HB := Aside0.mk (below_step (bl HB.out) hb); (try clear hb); (try clear hb2); (try clear hk); (try clear hi); (try clear ho0); (try clear ho1)) | ((with_reducible refine gate_dst (N := 8) rfl ?_); refine bx (cs := #[.int .i64 0, .slice none 0 0, .slice none 0 0]) (t := 41) fun gb549 hg w10 hbox hb => ?_; replace HO545 := Aside0.mk (Kd.R_below (rk HO545.out) hb); replace HO548 := Aside0.mk (Kd.R_below (rk HO548.out) hb); have BK549 := Aside0.mk (hbox); have GW549 := Aside0.mk (gs HB.out hg); have GE549 := Aside0.mk (gs HB.out hg); replace HB := Aside0.mk (below_step (bl HB.out) hb); have NB540_549 := Aside0.mk ((nl BK540.out hg)); have NB549_540 := Aside0.mk ((ng BK540.out hg)); replace BK540 := Aside0.mk (bb BK540.out hb); have NB541_549 := Aside0.mk ((nl BK541.out hg)); have NB549_541 := Aside0.mk ((ng BK541.out hg)); replace BK541 := Aside0.mk (bb BK541.out hb); clear hb hbox hg; have hnb11 := NB549_540.out; have hnc11 := NB540_549.out; have hnb12 := NB549_541.out; have hnc12 := NB541_549.out; obtain ⟨hcz13_0, hcz13_1, hcz13_2, hfz13_0, hfz13_1, hfz13_2⟩ := cz3 BK549.out; obtain ⟨Ao14, co14, eo14⟩ := Kd.R_slice HO545.out; subst eo14; obtain ⟨Ao15, co15, eo15⟩ := Kd.R_slice HO548.out; subst eo15))
 repeat (go_quiet (first | ((with_reducible refine gate_dst (N := 3) rfl ?_); refine bx (cs := #[.int .i64 a0_0, .slice A0_1 l0_1.length c0_1, .slice A0_2 l0_2.length c0_2]) (t := 41) fun gb540 hg w5 hbox hb => ?_; have BK540 := Aside0.mk (hbox); have GW540 := Aside0.mk (gs HB.out hg); have GE540 := Aside0.mk (gs HB.out hg); replace HB := Aside0.mk (below_step (bl HB.out) hb); clear hb hbox hg) | ((with_reducible refine gate_dst (N := 6) rfl ?_); refine bx (cs := #[.int .i64 0, .slice none 0 0, .slice none 0 0]) (t := 41) fun gb541 hg w6 hbox hb => ?_; have BK541 := Aside0.mk (hbox); have GW541 := Aside0.mk (gs HB.out hg); have GE541 := Aside0.mk (gs HB.out hg); replace HB := Aside0.mk (below_step (bl HB.out) hb); have NB540_541 := Aside0.mk ((nl BK540.out hg)); have NB541_540 := Aside0.mk ((ng BK540.out hg)); replace BK540 := Aside0.mk (bb BK540.out hb); clear hb hbox hg; have hnb7 := NB540_541.out; have hnc7 := NB541_540.out; obtain ⟨hcz8_0, hcz8_1, hcz8_2, hfz8_0, hfz8_1, hfz8_2⟩ := cz3 BK540.out) | (go_at_call 86; (with_reducible refine (spec_l02Copy.calls a0_0 _ _ l0_1 _ _ l0_2 t542 t543 t546 _ ?side1 ?side2 ?side3 ?side4 A4.out).mono ?_); (case side1 => exact cb (Kd.C_below HR0_1.out HB.out)); (case side2 => exact HC0_1.out); (case side3 => exact cb (Kd.C_below HR0_2.out HB.out)); (case side4 => exact HC0_2.out); rintro e w9 ⟨v544, v547, rfl, ho0, ho1, hb⟩; have HO545 := Aside0.mk (Kd.R_lower ho0 (below_size (bl HB.out))); have HO548 := Aside0.mk (Kd.R_lower ho1 (below_size (bl HB.out))); replace BK540 := Aside0.mk (bb BK540.out hb); replace BK541 := Aside0.mk (bb BK541.out hb); replace HB := Aside0.mk (below_step (bl HB.out) hb); (try clear hb); (try clear hb2); (try clear hk); (try clear hi); (try clear ho0); (try clear ho1)) | ((with_reducible refine gate_dst (N := 8) rfl ?_); refine bx (cs := #[.int .i64 0, .slice none 0 0, .slice none 0 0]) (t := 41) fun gb549 hg w10 hbox hb => ?_; replace HO545 := Aside0.mk (Kd.R_below (rk HO545.out) hb); replace HO548 := Aside0.mk (Kd.R_below (rk HO548.out) hb); have BK549 := Aside0.mk (hbox); have GW549 := Aside0.mk (gs HB.out hg); have GE549 := Aside0.mk (gs HB.out hg); replace HB := Aside0.mk (below_step (bl HB.out) hb); have NB540_549 := Aside0.mk ((nl BK540.out hg)); have NB549_540 := Aside0.mk ((ng BK540.out hg)); replace BK540 := Aside0.mk (bb BK540.out hb); have NB541_549 := Aside0.mk ((nl BK541.out hg)); have NB549_541 := Aside0.mk ((ng BK541.out hg)); replace BK541 := Aside0.mk (bb BK541.out hb); clear hb hbox hg; have hnb11 := NB549_540.out; have hnc11 := NB540_549.out; have hnb12 := NB549_541.out; have hnc12 := NB541_549.out; obtain ⟨hcz13_0, hcz13_1, hcz13_2, hfz13_0, hfz13_1, hfz13_2⟩ := cz3 BK549.out; obtain ⟨Ao14, co14, eo14⟩ := Kd.R_slice HO545.out; subst eo14; obtain ⟨Ao15, co15, eo15⟩ := Kd.R_slice HO548.out; subst eo15)); try go_wp2_with (first | ((with_reducible refine gate_dst (N := 3) rfl ?_); refine bx (cs := #[.int .i64 a0_0, .slice A0_1 l0_1.length c0_1, .slice A0_2 l0_2.length c0_2]) (t := 41) fun gb540 hg w5 hbox hb => ?_; have BK540 := Aside0.mk (hbox); have GW540 := Aside0.mk (gs HB.out hg); have GE540 := Aside0.mk (gs HB.out hg); replace HB := Aside0.mk (below_step (bl HB.out) hb); clear hb hbox hg) | ((with_reducible refine gate_dst (N := 6) rfl ?_); refine bx (cs := #[.int .i64 0, .slice none 0 0, .slice none 0 0]) (t := 41) fun gb541 hg w6 hbox hb => ?_; have BK541 := Aside0.mk (hbox); have GW541 := Aside0.mk (gs HB.out hg); have GE541 := Aside0.mk (gs HB.out hg); replace HB := Aside0.mk (below_step (bl HB.out) hb); have NB540_541 := Aside0.mk ((nl BK540.out hg)); have NB541_540 := Aside0.mk ((ng BK540.out hg)); replace BK540 := Aside0.mk (bb BK540.out hb); clear hb hbox hg; have hnb7 := NB540_541.out; have hnc7 := NB541_540.out; obtain ⟨hcz8_0, hcz8_1, hcz8_2, hfz8_0, hfz8_1, hfz8_2⟩ := cz3 BK540.out) | (go_at_call 86; (with_reducible refine (spec_l02Copy.calls a0_0 _ _ l0_1 _ _ l0_2 t542 t543 t546 _ ?side1 ?side2 ?side3 ?side4 A4.out).mono ?_); (case side1 => exact cb (Kd.C_below HR0_1.out HB.out)); (case side2 => exact HC0_1.out); (case side3 => exact cb (Kd.C_below HR0_2.out HB.out)); (case side4 => exact HC0_2.out); rintro e w9 ⟨v544, v547, rfl, ho0, ho1, hb⟩; have HO545 := Aside0.mk (Kd.R_lower ho0 (below_size (bl HB.out))); have HO548 := Aside0.mk (Kd.R_lower ho1 (below_size (bl HB.out))); replace BK540 := Aside0.mk (bb BK540.out hb); replace BK541 := Aside0.mk (bb BK541.out hb); replace HB := Aside0.mk (below_step (bl HB.out) hb); (try clear hb); (try clear hb2); (try clear hk); (try clear hi); (try clear ho0); (try clear ho1)) | ((with_reducible refine gate_dst (N := 8) rfl ?_); refine bx (cs := #[.int .i64 0, .slice none 0 0, .slice none 0 0]) (t := 41) fun gb549 hg w10 hbox hb => ?_; replace HO545 := Aside0.mk (Kd.R_below (rk HO545.out) hb); replace HO548 := Aside0.mk (Kd.R_below (rk HO548.out) hb); have BK549 := Aside0.mk (hbox); have GW549 := Aside0.mk (gs HB.out hg); have GE549 := Aside0.mk (gs HB.out hg); replace HB := Aside0.mk (below_step (bl HB.out) hb); have NB540_549 := Aside0.mk ((nl BK540.out hg)); have NB549_540 := Aside0.mk ((ng BK540.out hg)); replace BK540 := Aside0.mk (bb BK540.out hb); have NB541_549 := Aside0.mk ((nl BK541.out hg)); have NB549_541 := Aside0.mk ((ng BK541.out hg)); replace BK541 := Aside0.mk (bb BK541.out hb); clear hb hbox hg; have hnb11 := NB549_540.out; have hnc11 := NB540_549.out; have hnb12 := NB549_541.out; have hnc12 := NB541_549.out; obtain ⟨hcz13_0, hcz13_1, hcz13_2, hfz13_0, hfz13_1, hfz13_2⟩ := cz3 BK549.out; obtain ⟨Ao14, co14, eo14⟩ := Kd.R_slice HO545.out; subst eo14; obtain ⟨Ao15, co15, eo15⟩ := Kd.R_slice HO548.out; subst eo15)))
 go_loopg [9] k (fun kq v9 w' => ∃ (x9_1 : Int) (x542000_1 : Int) (x550002_1 : List (S98)) (u550002 : Value), v9 = .int .i64 x9_1 ∧ Aside0 (spec_SetJam.l0 kq a1 a2 x9_1 a0_0 l0_1 l0_2 t542 t543 x550002_1 = some (r1, r2, r3, r4)) ∧ Aside0 (kq ≤ k) ∧ Aside0 (Kd.R (Kd.int .i64) 3 w' w.heap.size (fun _ => True) (.slice Ao14 t543.length co14) t543) ∧ Aside0 (Kd.R k98 98 w' w.heap.size (fun _ => True) u550002 x550002_1) ∧ Aside0 (w'.heap[gb540]? = some (.cells #[.int .i64 a0_0, (.slice A0_1 l0_1.length c0_1), (.slice A0_2 l0_2.length c0_2)] 41 (0, 0))) ∧ Aside0 (w'.heap[gb541]? = some (.cells #[.int .i64 x542000_1, (.slice none 0 0), (.slice none 0 0)] 41 (0, 0))) ∧ Aside0 (w'.heap[gb549]? = some (.cells #[.int .i64 t542, (.slice Ao14 t543.length co14), u550002] 41 (0, 0))) ∧ Aside0 (Below w.heap.size w w'))
 case atStart => exact ⟨(0), (0), (t546), (.slice Ao15 t546.length co15), (by first | rfl | (simp; done) | (simp [*]; done)), H', ⟨Nat.le_refl _⟩, ⟨by refine rk ?_; exact Kd.R_mono (Kd.R_far (p := ⟨gb549, 2, none⟩) (Kd.R_far (p := ⟨gb549, 1, none⟩) (Kd.R_far (p := ⟨gb549, 0, none⟩) (Kd.R_types HO545.out BK549.out (by decide)) (fun _ hk => hk.2) (.int .i64 t542)) (fun _ hk => hk.2) (.slice Ao14 t543.length co14)) (fun _ hk => hk.2) (.slice Ao15 t546.length co15)) (fun _ hk => trivial)⟩, ⟨by refine rk ?_; exact Kd.R_mono (Kd.R_far (p := ⟨gb549, 2, none⟩) (Kd.R_far (p := ⟨gb549, 1, none⟩) (Kd.R_far (p := ⟨gb549, 0, none⟩) (Kd.R_types HO548.out BK549.out (by decide)) (fun _ hk => hk.2) (.int .i64 t542)) (fun _ hk => hk.2) (.slice Ao14 t543.length co14)) (fun _ hk => hk.2) (.slice Ao15 t546.length co15)) (fun _ hk => trivial)⟩, ⟨by refine bk ?_; refine blk_far ?_ NB540_549.out _; refine bk ?_; refine blk_far ?_ NB540_549.out _; refine bk ?_; refine blk_far ?_ NB540_549.out _; refine bk ?_; exact BK540.out⟩, ⟨by refine bk ?_; refine blk_far ?_ NB541_549.out _; refine bk ?_; refine blk_far ?_ NB541_549.out _; refine bk ?_; refine blk_far ?_ NB541_549.out _; refine bk ?_; exact BK541.out⟩, ⟨by refine bk ?_; refine blk_put (cs := #[.int .i64 t542, .slice Ao14 t543.length co14, .slice none 0 0]) ?_ 2 _ rfl; refine bk ?_; refine blk_put (cs := #[.int .i64 t542, .slice none 0 0, .slice none 0 0]) ?_ 1 _ rfl; refine bk ?_; refine blk_put (cs := #[.int .i64 0, .slice none 0 0, .slice none 0 0]) ?_ 0 _ rfl; refine bk ?_; exact BK549.out⟩, ⟨bl HB.out⟩⟩
 case round =>
  clear H'
  try clear c1
  try clear p2
  try clear c7
  try clear c11
  try clear c12
  try clear hcz13_0
  try clear hcz13_1
  try clear hcz13_2
  try clear hcz8_0
  try clear hcz8_1
  try clear hcz8_2
  try clear hfz13_0
  try clear hfz13_1
  try clear hfz13_2
  try clear hfz8_0
  try clear hfz8_1
  try clear hfz8_2
  obtain ⟨x9_1, x542000_1, x550002_1, u550002, rfl, HA, HK1, HO_550001, HO_550002, BK540, BK541, BK549, HB⟩ := hrel
  cases gk with
  | zero => exact absurd HA.out (by simp [spec_SetJam.l0])
  | succ k1 =>
   have H := HA.out
   clear HA
   simp only [spec_SetJam.l0] at H
   have HC16 := Aside0.mk H
   clear H
   go_upto_region 3 with (fail)
   repeat (go_quiet (fail); go_upto_region 3 with (fail))
   go_cut [20] (fun v20 wc => ∃ (kq : Nat) (x20_15 : Bool), v20 = .bool x20_15 ∧ Aside0 (spec_SetJam.j1 kq a1 a2 x9_1 x20_15 a0_0 l0_1 l0_2 t542 t543 x550002_1 = some (r1, r2, r3, r4)) ∧ Aside0 (kq ≤ k1) ∧ Aside0 (Kd.R (Kd.int .i64) 3 wc w.heap.size (fun _ => True) (.slice Ao14 t543.length co14) t543) ∧ Aside0 (Kd.R k98 98 wc w.heap.size (fun _ => True) u550002 x550002_1) ∧ Aside0 (wc.heap[gb540]? = some (.cells #[.int .i64 a0_0, (.slice A0_1 l0_1.length c0_1), (.slice A0_2 l0_2.length c0_2)] 41 (0, 0))) ∧ Aside0 (wc.heap[gb541]? = some (.cells #[.int .i64 x542000_1, (.slice none 0 0), (.slice none 0 0)] 41 (0, 0))) ∧ Aside0 (wc.heap[gb549]? = some (.cells #[.int .i64 t542, (.slice Ao14 t543.length co14), u550002] 41 (0, 0))) ∧ Aside0 (Below w.heap.size w wc))
   case first =>
    have H := HC16.out
    clear HC16
    by_cases c17 : x9_1 < (l0_2.length : Int)
    ·rw [if_pos c17] at H
     have c17b0 : decide (x9_1 < (l0_2.length : Int)) = true := decide_eq_true c17
     clear c17
     (first | rw [c17b0] | (simp only [i64_w, i32_w]; rw [c17b0]) | skip)
     replace H := Option.bind_eq_some_iff.mp H
     obtain ⟨t550, A180, H⟩ := H
     try dsimp only at H
     have A18 := Aside0.mk A180
     clear A180
     have H' := Aside0.mk H
     clear H
     have hnb19 := NB540_541.out
     have hnc19 := NB541_540.out
     have hnb20 := NB540_549.out
     have hnc20 := NB549_540.out
     obtain ⟨hcz21_0, hcz21_1, hcz21_2, hfz21_0, hfz21_1, hfz21_2⟩ := cz3 BK540.out
     go_wp2_with (first | (go_at_call 91; (with_reducible refine (spec_ColumnOk.calls k1 a0_0 _ _ l0_1 _ _ l0_2 t550 _ ?side1 ?side2 ?side3 ?side4 A18.out).mono ?_); (case side1 => exact cb (Kd.C_below HR0_1.out HB.out)); (case side2 => exact HC0_1.out); (case side3 => exact cb (Kd.C_below HR0_2.out HB.out)); (case side4 => exact HC0_2.out); rintro e w22 ⟨rfl, hb⟩; replace HO_550001 := Aside0.mk (Kd.R_below (rk HO_550001.out) hb); replace HO_550002 := Aside0.mk (Kd.R_below (rk HO_550002.out) hb); replace BK540 := Aside0.mk (bb BK540.out hb); replace BK541 := Aside0.mk (bb BK541.out hb); replace BK549 := Aside0.mk (bb BK549.out hb); replace HB := Aside0.mk (below_step (bl HB.out) hb); (try clear hb); (try clear hb2); (try clear hk); (try clear hi)))
     repeat (go_quiet (first | (go_at_call 91; (with_reducible refine (spec_ColumnOk.calls k1 a0_0 _ _ l0_1 _ _ l0_2 t550 _ ?side1 ?side2 ?side3 ?side4 A18.out).mono ?_); (case side1 => exact cb (Kd.C_below HR0_1.out HB.out)); (case side2 => exact HC0_1.out); (case side3 => exact cb (Kd.C_below HR0_2.out HB.out)); (case side4 => exact HC0_2.out); rintro e w22 ⟨rfl, hb⟩; replace HO_550001 := Aside0.mk (Kd.R_below (rk HO_550001.out) hb); replace HO_550002 := Aside0.mk (Kd.R_below (rk HO_550002.out) hb); replace BK540 := Aside0.mk (bb BK540.out hb); replace BK541 := Aside0.mk (bb BK541.out hb); replace BK549 := Aside0.mk (bb BK549.out hb); replace HB := Aside0.mk (below_step (bl HB.out) hb); (try clear hb); (try clear hb2); (try clear hk); (try clear hi))); try go_wp2_with (first | (go_at_call 91; (with_reducible refine (spec_ColumnOk.calls k1 a0_0 _ _ l0_1 _ _ l0_2 t550 _ ?side1 ?side2 ?side3 ?side4 A18.out).mono ?_); (case side1 => exact cb (Kd.C_below HR0_1.out HB.out)); (case side2 => exact HC0_1.out); (case side3 => exact cb (Kd.C_below HR0_2.out HB.out)); (case side4 => exact HC0_2.out); rintro e w22 ⟨rfl, hb⟩; replace HO_550001 := Aside0.mk (Kd.R_below (rk HO_550001.out) hb); replace HO_550002 := Aside0.mk (Kd.R_below (rk HO_550002.out) hb); replace BK540 := Aside0.mk (bb BK540.out hb); replace BK541 := Aside0.mk (bb BK541.out hb); replace BK549 := Aside0.mk (bb BK549.out hb); replace HB := Aside0.mk (below_step (bl HB.out) hb); (try clear hb); (try clear hb2); (try clear hk); (try clear hi))))
     go_meet
     case rel => exact ⟨_, (t550), (by first | rfl | (simp; done) | (simp [*]; done)), H', ⟨by have := HK1.out; first | omega | exact Nat.le_refl _⟩, ⟨rk HO_550001.out⟩, ⟨rk HO_550002.out⟩, ⟨by refine bk ?_; exact BK540.out⟩, ⟨by refine bk ?_; exact BK541.out⟩, ⟨by refine bk ?_; exact BK549.out⟩, ⟨bl HB.out⟩⟩
    ·rw [if_neg c17] at H
     have c17b0 : decide (x9_1 < (l0_2.length : Int)) = false := decide_eq_false c17
     clear c17
     (first | rw [c17b0] | (simp only [i64_w, i32_w]; rw [c17b0]) | skip)
     have H' := Aside0.mk H
     clear H
     have hnb23 := NB540_541.out
     have hnc23 := NB541_540.out
     have hnb24 := NB540_549.out
     have hnc24 := NB549_540.out
     obtain ⟨hcz25_0, hcz25_1, hcz25_2, hfz25_0, hfz25_1, hfz25_2⟩ := cz3 BK540.out
     go_wp2
     repeat (go_quiet (fail); try go_wp2)
     go_meet
     case rel => exact ⟨_, (false), (by first | rfl | (simp; done) | (simp [*]; done)), H', ⟨by have := HK1.out; first | omega | exact Nat.le_refl _⟩, ⟨rk HO_550001.out⟩, ⟨rk HO_550002.out⟩, ⟨by refine bk ?_; exact BK540.out⟩, ⟨by refine bk ?_; exact BK541.out⟩, ⟨by refine bk ?_; exact BK549.out⟩, ⟨bl HB.out⟩⟩
   case rest =>
    clear HC16
    try clear c1
    try clear c2
    try clear p2
    try clear c7
    try clear c11
    try clear c12
    try clear c17
    try clear c17b0
    try clear c19
    try clear c20
    try clear c23
    try clear c24
    try clear hcz13_0
    try clear hcz13_1
    try clear hcz13_2
    try clear hcz21_0
    try clear hcz21_1
    try clear hcz21_2
    try clear hcz25_0
    try clear hcz25_1
    try clear hcz25_2
    try clear hcz8_0
    try clear hcz8_1
    try clear hcz8_2
    try clear hfz13_0
    try clear hfz13_1
    try clear hfz13_2
    try clear hfz21_0
    try clear hfz21_1
    try clear hfz21_2
    try clear hfz25_0
    try clear hfz25_1
    try clear hfz25_2
    try clear hfz8_0
    try clear hfz8_1
    try clear hfz8_2
    try clear p2
    obtain ⟨kq, x20_15, rfl, HA, HJ15, HO_550001, HO_550002, BK540, BK541, BK549, HB⟩ := hcut
    cases kq with
    | zero => exact absurd HA.out (by simp [spec_SetJam.j1])
    | succ kj15 =>
     have H := HA.out
     clear HA
     simp only [spec_SetJam.j1] at H
     by_cases c26 : x20_15 = true
     ·subst c26
      rw [if_pos rfl] at H
      by_cases c27 : 0 ≤ x9_1
      ·rw [if_pos c27] at H
       have c27b0 : decide (0 ≤ x9_1) = true := decide_eq_true c27
       clear c27
       by_cases c28 : x9_1 < (l0_2.length : Int)
       ·rw [if_pos c28] at H
        have c28b0 : decide (x9_1 < (l0_2.length : Int)) = true := decide_eq_true c28
        clear c28
        replace H := Option.bind_eq_some_iff.mp H
        obtain ⟨t554, A290, H⟩ := H
        try dsimp only at H
        have A29 := Aside0.mk A290
        clear A290
        by_cases c30 : t554 = true
        ·subst c30
         rw [if_pos rfl] at H
         by_cases c31 : x9_1 < (x550002_1.length : Int)
         ·rw [if_pos c31] at H
          have c31b0 : decide (x9_1 < (x550002_1.length : Int)) = true := decide_eq_true c31
          clear c31
          obtain ⟨y555, hy555⟩ : ∃ y_ : List (S98), y_ = (x550002_1.set (x9_1 : Int).toNat (⟨(rd_T98 x550002_1 x9_1).f0, (rd_T98 x550002_1 x9_1).f1, (rd_T98 x550002_1 x9_1).f2, a2⟩ : S98)) := ⟨_, rfl⟩
          replace H : (some (t542, t543, y555, true)) = some (r1, r2, r3, r4) := by first | (rw [hy555]; with_reducible exact H) | (have H2_ := (Option.bind_some _ _).symm.trans H; rw [hy555]; with_reducible exact H2_) | (have H2_ := (Option.bind_some _ _).symm.trans H; with_reducible exact H2_) | with_reducible exact H | (rw [hy555]; exact H) | exact H
          have Ny555 := Aside0.mk hy555
          clear hy555
          simp only [Option.some.injEq, Prod.mk.injEq] at H
          obtain ⟨rfl, rfl, rfl, rfl⟩ := H
          have hnb33 := NB540_541.out
          have hnc33 := NB541_540.out
          have hnb34 := NB540_549.out
          have hnc34 := NB549_540.out
          obtain ⟨hcz35_0, hcz35_1, hcz35_2, hfz35_0, hfz35_1, hfz35_2⟩ := cz3 BK540.out
          have p551 : 0 ≤ (x9_1 : Int) := of_decide_eq_true asm
          have q551 : x9_1 < (l0_2.length : Int) := of_decide_eq_true asm
          obtain ⟨ad551, e551, hx551_0, hx551_1, hx551_2, hx551_3⟩ := at_T98 HR0_2.out x9_1 p551 q551
          cases e551
          replace hx551_0 := (HB.out.cell (World.block_lt_of_cell? w _ hx551_0)).trans hx551_0
          replace hx551_1 := (HB.out.cell (World.block_lt_of_cell? w _ hx551_1)).trans hx551_1
          replace hx551_2 := (HB.out.cell (World.block_lt_of_cell? w _ hx551_2)).trans hx551_2
          replace hx551_3 := (HB.out.cell (World.block_lt_of_cell? w _ hx551_3)).trans hx551_3
          replace p551 := eq_true p551
          replace q551 := eq_true q551
          have p552 : 0 ≤ (x9_1 : Int) := of_decide_eq_true asm
          have q552 : x9_1 < (l0_2.length : Int) := of_decide_eq_true asm
          obtain ⟨ad552, e552, hx552_0, hx552_1, hx552_2, hx552_3⟩ := at_T98 HR0_2.out x9_1 p552 q552
          obtain rfl : ad551 = ad552 := (by injection e552)
          replace hx552_0 := (HB.out.cell (World.block_lt_of_cell? w _ hx552_0)).trans hx552_0
          replace hx552_1 := (HB.out.cell (World.block_lt_of_cell? w _ hx552_1)).trans hx552_1
          replace hx552_2 := (HB.out.cell (World.block_lt_of_cell? w _ hx552_2)).trans hx552_2
          replace hx552_3 := (HB.out.cell (World.block_lt_of_cell? w _ hx552_3)).trans hx552_3
          replace p552 := eq_true p552
          replace q552 := eq_true q552
          have p553 : 0 ≤ (x9_1 : Int) := of_decide_eq_true asm
          have q553 : x9_1 < (l0_2.length : Int) := of_decide_eq_true asm
          obtain ⟨ad553, e553, hx553_0, hx553_1, hx553_2, hx553_3⟩ := at_T98 HR0_2.out x9_1 p553 q553
          obtain rfl : ad551 = ad553 := (by injection e553)
          replace hx553_0 := (HB.out.cell (World.block_lt_of_cell? w _ hx553_0)).trans hx553_0
          replace hx553_1 := (HB.out.cell (World.block_lt_of_cell? w _ hx553_1)).trans hx553_1
          replace hx553_2 := (HB.out.cell (World.block_lt_of_cell? w _ hx553_2)).trans hx553_2
          replace hx553_3 := (HB.out.cell (World.block_lt_of_cell? w _ hx553_3)).trans hx553_3
          replace p553 := eq_true p553
          replace q553 := eq_true q553
          have hnb36 := NB549_541.out; have hnc36 := NB541_549.out; obtain ⟨hcz37_0, hcz37_1, hcz37_2, hfz37_0, hfz37_1, hfz37_2⟩ := cz3 BK549.out; have p32 : 0 ≤ (x9_1 : Int) := of_decide_eq_true asm; have q32 : (x9_1 : Int) < ((x550002_1.length : Int) : Int) := of_decide_eq_true asm; obtain ⟨go32, co32, eo32, gb32, gl32, cl32, HG32⟩ := Kd.R_form HO_550002.out (by omega); (first | cases eo32 | (injection eo32 with ea_ en_ ec_; (first | subst ea_ | (injection ea_ with ea_; subst ea_)); subst ec_; clear en_)); have GB32 := Aside0.mk gb32; have GG32 := Aside0.mk HG32; clear gb32 gl32 HG32; obtain ⟨ce32, hcl32, hM32, hcc32, hfr32⟩ := Kd.R_elem HO_550002.out z98 (x9_1 : Int) p32 q32; obtain rfl := k98_openM hM32; have hx32_0 : wc.cell? ⟨go32, (x9_1 : Int).toNat * 4, none⟩ = some (.int .i64 ((rd_T98 x550002_1 x9_1).f0)) := hcc32 0 _ rfl; have hx32_1 : wc.cell? ⟨go32, (x9_1 : Int).toNat * 4 + 1, none⟩ = some (.int .i64 ((rd_T98 x550002_1 x9_1).f1)) := hcc32 1 _ rfl; have hx32_2 : wc.cell? ⟨go32, (x9_1 : Int).toNat * 4 + 2, none⟩ = some (.int .i64 ((rd_T98 x550002_1 x9_1).f2)) := hcc32 2 _ rfl; have hx32_3 : wc.cell? ⟨go32, (x9_1 : Int).toNat * 4 + 3, none⟩ = some (.bool ((rd_T98 x550002_1 x9_1).f3)) := hcc32 3 _ rfl; have hf32_0 : wc.frozen? ⟨go32, (x9_1 : Int).toNat * 4, none⟩ = false := hfr32 0; have hf32_1 : wc.frozen? ⟨go32, (x9_1 : Int).toNat * 4 + 1, none⟩ = false := hfr32 1; have hf32_2 : wc.frozen? ⟨go32, (x9_1 : Int).toNat * 4 + 2, none⟩ = false := hfr32 2; have hf32_3 : wc.frozen? ⟨go32, (x9_1 : Int).toNat * 4 + 3, none⟩ = false := hfr32 3; clear hcl32 hcc32 hfr32 hM32; replace p32 := eq_true p32; replace q32 := eq_true q32; have HX38 := Aside0.mk (show Kd.R k98 98 wc w.heap.size (fun _ => True) (.slice (some ⟨go32, 0, none⟩) x550002_1.length co32) x550002_1 from (rk HO_550002.out)); obtain ⟨ce38, hcl38, hM38, hcc38, hfr38⟩ := Kd.R_elem HX38.out z98 (x9_1 : Int) (of_decide_eq_true asm) (by have h_ : (x9_1 : Int) < ((x550002_1.length : Int) : Int) := of_decide_eq_true asm; first | exact h_ | (have e_ := (Kd.R_reads' HO_550002.out).1; omega) | simpa using h_); obtain rfl := k98_openM hM38; have HP38 := Kd.R_seg HX38.out (x9_1 : Int) (of_decide_eq_true asm) (by have h_ : (x9_1 : Int) < ((x550002_1.length : Int) : Int) := of_decide_eq_true asm; first | exact h_ | (have e_ := (Kd.R_reads' HO_550002.out).1; omega) | simpa using h_) (seg := [.bool a2]) (j := 3) hcl38 hcc38 (show 4 ≤ 4 from by decide) (x' := (⟨(rd_T98 x550002_1 x9_1).f0, (rd_T98 x550002_1 x9_1).f1, (rd_T98 x550002_1 x9_1).f2, a2⟩ : S98)) (k98_mkM _ _ _ (⟨(rd_T98 x550002_1 x9_1).f0, (rd_T98 x550002_1 x9_1).f1, (rd_T98 x550002_1 x9_1).f2, a2⟩ : S98) ) (fun _ hk => hk); have hx38_3 := hcc38 3 _ rfl; (try simp only [show (k98).sz = 4 from rfl, Nat.mul_one, Nat.add_zero] at hx38_3); have hf38_3 := hfr38 3; (try simp only [show (k98).sz = 4 from rfl, Nat.mul_one, Nat.add_zero] at hf38_3); clear hcl38 hcc38 hfr38 hM38
          go_wp2_with (first | (go_at_call 84; (with_reducible refine (spec_l01In.calls a1 ((rd_T98 l0_2 x9_1).f0) (wrap64 ((wrap64 (((rd_T98 l0_2 x9_1).f0) + ((rd_T98 l0_2 x9_1).f1))) - 1)) true _ A29.out).mono ?_); rintro e w' ⟨rfl, ⟨nd, rfl⟩⟩; (try exact dd)) | ((with_reducible refine gate_store (t := 4) (p := 50) rfl ?_); (try (rw [drewN_self wc]; generalize hq_ : World.drewN wc _ = wc; replace HO_550001 := Aside0.mk (Kd.R_at hq_ HO_550001.out); replace HO_550002 := Aside0.mk (Kd.R_at hq_ HO_550002.out); replace BK540 := Aside0.mk (blk_at hq_ BK540.out); replace BK541 := Aside0.mk (blk_at hq_ BK541.out); replace BK549 := Aside0.mk (blk_at hq_ BK549.out); replace HB := Aside0.mk (below_at hq_ HB.out); clear hq_; (try (have HX38 := Aside0.mk (show Kd.R k98 98 wc w.heap.size (fun _ => True) (.slice (some ⟨go32, 0, none⟩) x550002_1.length co32) x550002_1 from (rk HO_550002.out)))); (try (obtain ⟨ce38, hcl38, hM38, hcc38, hfr38⟩ := Kd.R_elem HX38.out z98 (x9_1 : Int) (of_decide_eq_true asm) (by have h_ : (x9_1 : Int) < ((x550002_1.length : Int) : Int) := of_decide_eq_true asm; first | exact h_ | (have e_ := (Kd.R_reads' HO_550002.out).1; omega) | simpa using h_))); (try (obtain rfl := k98_openM hM38)); (try (have HP38 := Kd.R_seg HX38.out (x9_1 : Int) (of_decide_eq_true asm) (by have h_ : (x9_1 : Int) < ((x550002_1.length : Int) : Int) := of_decide_eq_true asm; first | exact h_ | (have e_ := (Kd.R_reads' HO_550002.out).1; omega) | simpa using h_) (seg := [.bool a2]) (j := 3) hcl38 hcc38 (show 4 ≤ 4 from by decide) (x' := (⟨(rd_T98 x550002_1 x9_1).f0, (rd_T98 x550002_1 x9_1).f1, (rd_T98 x550002_1 x9_1).f2, a2⟩ : S98)) (k98_mkM _ _ _ (⟨(rd_T98 x550002_1 x9_1).f0, (rd_T98 x550002_1 x9_1).f1, (rd_T98 x550002_1 x9_1).f2, a2⟩ : S98) ) (fun _ hk => hk))); (try (have hx38_3 := hcc38 3 _ rfl)); (try (try simp only [show (k98).sz = 4 from rfl, Nat.mul_one, Nat.add_zero] at hx38_3)); (try (have hf38_3 := hfr38 3)); (try (try simp only [show (k98).sz = 4 from rfl, Nat.mul_one, Nat.add_zero] at hf38_3)); (try (clear hcl38 hcc38 hfr38 hM38)))); refine store_event (t := 4) (p := 50) (v := ?vo_w39) (w1 := (wc.setCell ⟨go32, (x9_1 : Int).toNat * 4 + 3, none⟩ (.bool a2))) ?hg ?ho ?hn ?hr ?_; (case ho => rfl); (case hg => rfl); (case hn => rfl); (case hr => first | (go_simp; done) | (go_simp; rfl)); intro w39 hw; have hg : wc.grownBy w39 (some go32) := (by rw [hw]; exact HP38.2); have hp_ : Kd.R k98 98 w39 w.heap.size (fun _ => True) (.slice (some ⟨go32, 0, none⟩) x550002_1.length co32) y555 := (by rw [hw, Ny555.out]; exact HP38.1); clear HP38; replace HO_550001 := Aside0.mk (Kd.R_over' (v := (.slice (some ⟨go32, 0, none⟩) x550002_1.length co32)) (rk HO_550001.out) (Kd.R_typed HO_550002.out) (by decide) hg); replace BK540 := Aside0.mk (blk_grown (g := gb540) (o := .cells #[.int .i64 a0_0, .slice A0_1 l0_1.length c0_1, .slice (some ad551) l0_2.length c0_2] 41 (0, 0)) (bk BK540.out) hg (Kd.R_ne HO_550002.out BK540.out (by decide))); replace BK541 := Aside0.mk (blk_grown (g := gb541) (o := .cells #[.int .i64 x542000_1, .slice none 0 0, .slice none 0 0] 41 (0, 0)) (bk BK541.out) hg (Kd.R_ne HO_550002.out BK541.out (by decide))); replace BK549 := Aside0.mk (blk_grown (g := gb549) (o := .cells #[.int .i64 t542, .slice Ao14 t543.length co14, .slice (some ⟨go32, 0, none⟩) x550002_1.length co32] 41 (0, 0)) (bk BK549.out) hg (Kd.R_ne HO_550002.out BK549.out (by decide))); replace HO_550002 := Aside0.mk (hp_); replace HB := Aside0.mk ((by rw [hw]; exact below_set (HB.out) GB32.out : Below w.heap.size w w39)); clear hg hw hp_; obtain ⟨hcz40_0, hcz40_1, hcz40_2, hfz40_0, hfz40_1, hfz40_2⟩ := cz3 BK549.out; obtain ⟨hcz41_0, hcz41_1, hcz41_2, hfz41_0, hfz41_1, hfz41_2⟩ := cz3 BK541.out))
          repeat (go_quiet (first | (go_at_call 84; (with_reducible refine (spec_l01In.calls a1 ((rd_T98 l0_2 x9_1).f0) (wrap64 ((wrap64 (((rd_T98 l0_2 x9_1).f0) + ((rd_T98 l0_2 x9_1).f1))) - 1)) true _ A29.out).mono ?_); rintro e w' ⟨rfl, ⟨nd, rfl⟩⟩; (try exact dd)) | ((with_reducible refine gate_store (t := 4) (p := 50) rfl ?_); (try (rw [drewN_self wc]; generalize hq_ : World.drewN wc _ = wc; replace HO_550001 := Aside0.mk (Kd.R_at hq_ HO_550001.out); replace HO_550002 := Aside0.mk (Kd.R_at hq_ HO_550002.out); replace BK540 := Aside0.mk (blk_at hq_ BK540.out); replace BK541 := Aside0.mk (blk_at hq_ BK541.out); replace BK549 := Aside0.mk (blk_at hq_ BK549.out); replace HB := Aside0.mk (below_at hq_ HB.out); clear hq_; (try (have HX38 := Aside0.mk (show Kd.R k98 98 wc w.heap.size (fun _ => True) (.slice (some ⟨go32, 0, none⟩) x550002_1.length co32) x550002_1 from (rk HO_550002.out)))); (try (obtain ⟨ce38, hcl38, hM38, hcc38, hfr38⟩ := Kd.R_elem HX38.out z98 (x9_1 : Int) (of_decide_eq_true asm) (by have h_ : (x9_1 : Int) < ((x550002_1.length : Int) : Int) := of_decide_eq_true asm; first | exact h_ | (have e_ := (Kd.R_reads' HO_550002.out).1; omega) | simpa using h_))); (try (obtain rfl := k98_openM hM38)); (try (have HP38 := Kd.R_seg HX38.out (x9_1 : Int) (of_decide_eq_true asm) (by have h_ : (x9_1 : Int) < ((x550002_1.length : Int) : Int) := of_decide_eq_true asm; first | exact h_ | (have e_ := (Kd.R_reads' HO_550002.out).1; omega) | simpa using h_) (seg := [.bool a2]) (j := 3) hcl38 hcc38 (show 4 ≤ 4 from by decide) (x' := (⟨(rd_T98 x550002_1 x9_1).f0, (rd_T98 x550002_1 x9_1).f1, (rd_T98 x550002_1 x9_1).f2, a2⟩ : S98)) (k98_mkM _ _ _ (⟨(rd_T98 x550002_1 x9_1).f0, (rd_T98 x550002_1 x9_1).f1, (rd_T98 x550002_1 x9_1).f2, a2⟩ : S98) ) (fun _ hk => hk))); (try (have hx38_3 := hcc38 3 _ rfl)); (try (try simp only [show (k98).sz = 4 from rfl, Nat.mul_one, Nat.add_zero] at hx38_3)); (try (have hf38_3 := hfr38 3)); (try (try simp only [show (k98).sz = 4 from rfl, Nat.mul_one, Nat.add_zero] at hf38_3)); (try (clear hcl38 hcc38 hfr38 hM38)))); refine store_event (t := 4) (p := 50) (v := ?vo_w39) (w1 := (wc.setCell ⟨go32, (x9_1 : Int).toNat * 4 + 3, none⟩ (.bool a2))) ?hg ?ho ?hn ?hr ?_; (case ho => rfl); (case hg => rfl); (case hn => rfl); (case hr => first | (go_simp; done) | (go_simp; rfl)); intro w39 hw; have hg : wc.grownBy w39 (some go32) := (by rw [hw]; exact HP38.2); have hp_ : Kd.R k98 98 w39 w.heap.size (fun _ => True) (.slice (some ⟨go32, 0, none⟩) x550002_1.length co32) y555 := (by rw [hw, Ny555.out]; exact HP38.1); clear HP38; replace HO_550001 := Aside0.mk (Kd.R_over' (v := (.slice (some ⟨go32, 0, none⟩) x550002_1.length co32)) (rk HO_550001.out) (Kd.R_typed HO_550002.out) (by decide) hg); replace BK540 := Aside0.mk (blk_grown (g := gb540) (o := .cells #[.int .i64 a0_0, .slice A0_1 l0_1.length c0_1, .slice (some ad551) l0_2.length c0_2] 41 (0, 0)) (bk BK540.out) hg (Kd.R_ne HO_550002.out BK540.out (by decide))); replace BK541 := Aside0.mk (blk_grown (g := gb541) (o := .cells #[.int .i64 x542000_1, .slice none 0 0, .slice none 0 0] 41 (0, 0)) (bk BK541.out) hg (Kd.R_ne HO_550002.out BK541.out (by decide))); replace BK549 := Aside0.mk (blk_grown (g := gb549) (o := .cells #[.int .i64 t542, .slice Ao14 t543.length co14, .slice (some ⟨go32, 0, none⟩) x550002_1.length co32] 41 (0, 0)) (bk BK549.out) hg (Kd.R_ne HO_550002.out BK549.out (by decide))); replace HO_550002 := Aside0.mk (hp_); replace HB := Aside0.mk ((by rw [hw]; exact below_set (HB.out) GB32.out : Below w.heap.size w w39)); clear hg hw hp_; obtain ⟨hcz40_0, hcz40_1, hcz40_2, hfz40_0, hfz40_1, hfz40_2⟩ := cz3 BK549.out; obtain ⟨hcz41_0, hcz41_1, hcz41_2, hfz41_0, hfz41_1, hfz41_2⟩ := cz3 BK541.out)); try go_wp2_with (first | (go_at_call 84; (with_reducible refine (spec_l01In.calls a1 ((rd_T98 l0_2 x9_1).f0) (wrap64 ((wrap64 (((rd_T98 l0_2 x9_1).f0) + ((rd_T98 l0_2 x9_1).f1))) - 1)) true _ A29.out).mono ?_); rintro e w' ⟨rfl, ⟨nd, rfl⟩⟩; (try exact dd)) | ((with_reducible refine gate_store (t := 4) (p := 50) rfl ?_); (try (rw [drewN_self wc]; generalize hq_ : World.drewN wc _ = wc; replace HO_550001 := Aside0.mk (Kd.R_at hq_ HO_550001.out); replace HO_550002 := Aside0.mk (Kd.R_at hq_ HO_550002.out); replace BK540 := Aside0.mk (blk_at hq_ BK540.out); replace BK541 := Aside0.mk (blk_at hq_ BK541.out); replace BK549 := Aside0.mk (blk_at hq_ BK549.out); replace HB := Aside0.mk (below_at hq_ HB.out); clear hq_; (try (have HX38 := Aside0.mk (show Kd.R k98 98 wc w.heap.size (fun _ => True) (.slice (some ⟨go32, 0, none⟩) x550002_1.length co32) x550002_1 from (rk HO_550002.out)))); (try (obtain ⟨ce38, hcl38, hM38, hcc38, hfr38⟩ := Kd.R_elem HX38.out z98 (x9_1 : Int) (of_decide_eq_true asm) (by have h_ : (x9_1 : Int) < ((x550002_1.length : Int) : Int) := of_decide_eq_true asm; first | exact h_ | (have e_ := (Kd.R_reads' HO_550002.out).1; omega) | simpa using h_))); (try (obtain rfl := k98_openM hM38)); (try (have HP38 := Kd.R_seg HX38.out (x9_1 : Int) (of_decide_eq_true asm) (by have h_ : (x9_1 : Int) < ((x550002_1.length : Int) : Int) := of_decide_eq_true asm; first | exact h_ | (have e_ := (Kd.R_reads' HO_550002.out).1; omega) | simpa using h_) (seg := [.bool a2]) (j := 3) hcl38 hcc38 (show 4 ≤ 4 from by decide) (x' := (⟨(rd_T98 x550002_1 x9_1).f0, (rd_T98 x550002_1 x9_1).f1, (rd_T98 x550002_1 x9_1).f2, a2⟩ : S98)) (k98_mkM _ _ _ (⟨(rd_T98 x550002_1 x9_1).f0, (rd_T98 x550002_1 x9_1).f1, (rd_T98 x550002_1 x9_1).f2, a2⟩ : S98) ) (fun _ hk => hk))); (try (have hx38_3 := hcc38 3 _ rfl)); (try (try simp only [show (k98).sz = 4 from rfl, Nat.mul_one, Nat.add_zero] at hx38_3)); (try (have hf38_3 := hfr38 3)); (try (try simp only [show (k98).sz = 4 from rfl, Nat.mul_one, Nat.add_zero] at hf38_3)); (try (clear hcl38 hcc38 hfr38 hM38)))); refine store_event (t := 4) (p := 50) (v := ?vo_w39) (w1 := (wc.setCell ⟨go32, (x9_1 : Int).toNat * 4 + 3, none⟩ (.bool a2))) ?hg ?ho ?hn ?hr ?_; (case ho => rfl); (case hg => rfl); (case hn => rfl); (case hr => first | (go_simp; done) | (go_simp; rfl)); intro w39 hw; have hg : wc.grownBy w39 (some go32) := (by rw [hw]; exact HP38.2); have hp_ : Kd.R k98 98 w39 w.heap.size (fun _ => True) (.slice (some ⟨go32, 0, none⟩) x550002_1.length co32) y555 := (by rw [hw, Ny555.out]; exact HP38.1); clear HP38; replace HO_550001 := Aside0.mk (Kd.R_over' (v := (.slice (some ⟨go32, 0, none⟩) x550002_1.length co32)) (rk HO_550001.out) (Kd.R_typed HO_550002.out) (by decide) hg); replace BK540 := Aside0.mk (blk_grown (g := gb540) (o := .cells #[.int .i64 a0_0, .slice A0_1 l0_1.length c0_1, .slice (some ad551) l0_2.length c0_2] 41 (0, 0)) (bk BK540.out) hg (Kd.R_ne HO_550002.out BK540.out (by decide))); replace BK541 := Aside0.mk (blk_grown (g := gb541) (o := .cells #[.int .i64 x542000_1, .slice none 0 0, .slice none 0 0] 41 (0, 0)) (bk BK541.out) hg (Kd.R_ne HO_550002.out BK541.out (by decide))); replace BK549 := Aside0.mk (blk_grown (g := gb549) (o := .cells #[.int .i64 t542, .slice Ao14 t543.length co14, .slice (some ⟨go32, 0, none⟩) x550002_1.length co32] 41 (0, 0)) (bk BK549.out) hg (Kd.R_ne HO_550002.out BK549.out (by decide))); replace HO_550002 := Aside0.mk (hp_); replace HB := Aside0.mk ((by rw [hw]; exact below_set (HB.out) GB32.out : Below w.heap.size w w39)); clear hg hw hp_; obtain ⟨hcz40_0, hcz40_1, hcz40_2, hfz40_0, hfz40_1, hfz40_2⟩ := cz3 BK549.out; obtain ⟨hcz41_0, hcz41_1, hcz41_2, hfz41_0, hfz41_1, hfz41_2⟩ := cz3 BK541.out)))
          refine bodyPost_ret (results_ct rfl _ _ gb541 41 #[.int .i64 t542, .slice Ao14 t543.length co14, .slice (some ⟨go32, 0, none⟩) x550002_1.length co32] (0, 0) _ rfl (by refine bk ?_; refine blk_put (cs := #[.int .i64 t542, .slice Ao14 t543.length co14, .slice none 0 0]) ?_ 2 _ rfl; refine bk ?_; refine blk_put (cs := #[.int .i64 t542, .slice none 0 0, .slice none 0 0]) ?_ 1 _ rfl; refine bk ?_; refine blk_put (cs := #[.int .i64 x542000_1, .slice none 0 0, .slice none 0 0]) ?_ 0 _ rfl; refine bk ?_; exact BK541.out) Try.underlying41 rfl (by kernel_rfl)) rfl ?_
          exact ⟨_, _, by first | rfl | (simp [errW_none, errW_some] <;> rfl) | (simp [*, errW_none, errW_some] <;> rfl), by refine rk ?_; exact Kd.R_mono (Kd.R_far (p := ⟨gb541, 2, none⟩) (Kd.R_far (p := ⟨gb541, 1, none⟩) (Kd.R_far (p := ⟨gb541, 0, none⟩) (Kd.R_types HO_550001.out BK541.out (by decide)) (fun _ hk => hk.2) (.int .i64 t542)) (fun _ hk => hk.2) (.slice Ao14 t543.length co14)) (fun _ hk => hk.2) (.slice (some ⟨go32, 0, none⟩) x550002_1.length co32)) (fun _ hk => trivial), by refine rk ?_; exact Kd.R_mono (Kd.R_far (p := ⟨gb541, 2, none⟩) (Kd.R_far (p := ⟨gb541, 1, none⟩) (Kd.R_far (p := ⟨gb541, 0, none⟩) (Kd.R_types HO_550002.out BK541.out (by decide)) (fun _ hk => hk.2) (.int .i64 t542)) (fun _ hk => hk.2) (.slice Ao14 t543.length co14)) (fun _ hk => hk.2) (.slice (some ⟨go32, 0, none⟩) x550002_1.length co32)) (fun _ hk => trivial), bl HB.out⟩
         ·rw [if_neg c31] at H
          exact absurd H (by simp)
        ·replace c30 := Bool.eq_false_iff.mpr c30
         subst c30
         rw [if_neg (show ¬ (false = true) by decide)] at H
         have H' := Aside0.mk H
         clear H
         have hnb42 := NB540_541.out
         have hnc42 := NB541_540.out
         have hnb43 := NB540_549.out
         have hnc43 := NB549_540.out
         obtain ⟨hcz44_0, hcz44_1, hcz44_2, hfz44_0, hfz44_1, hfz44_2⟩ := cz3 BK540.out
         have p551 : 0 ≤ (x9_1 : Int) := of_decide_eq_true asm
         have q551 : x9_1 < (l0_2.length : Int) := of_decide_eq_true asm
         obtain ⟨ad551, e551, hx551_0, hx551_1, hx551_2, hx551_3⟩ := at_T98 HR0_2.out x9_1 p551 q551
         cases e551
         replace hx551_0 := (HB.out.cell (World.block_lt_of_cell? w _ hx551_0)).trans hx551_0
         replace hx551_1 := (HB.out.cell (World.block_lt_of_cell? w _ hx551_1)).trans hx551_1
         replace hx551_2 := (HB.out.cell (World.block_lt_of_cell? w _ hx551_2)).trans hx551_2
         replace hx551_3 := (HB.out.cell (World.block_lt_of_cell? w _ hx551_3)).trans hx551_3
         replace p551 := eq_true p551
         replace q551 := eq_true q551
         have p552 : 0 ≤ (x9_1 : Int) := of_decide_eq_true asm
         have q552 : x9_1 < (l0_2.length : Int) := of_decide_eq_true asm
         obtain ⟨ad552, e552, hx552_0, hx552_1, hx552_2, hx552_3⟩ := at_T98 HR0_2.out x9_1 p552 q552
         obtain rfl : ad551 = ad552 := (by injection e552)
         replace hx552_0 := (HB.out.cell (World.block_lt_of_cell? w _ hx552_0)).trans hx552_0
         replace hx552_1 := (HB.out.cell (World.block_lt_of_cell? w _ hx552_1)).trans hx552_1
         replace hx552_2 := (HB.out.cell (World.block_lt_of_cell? w _ hx552_2)).trans hx552_2
         replace hx552_3 := (HB.out.cell (World.block_lt_of_cell? w _ hx552_3)).trans hx552_3
         replace p552 := eq_true p552
         replace q552 := eq_true q552
         have p553 : 0 ≤ (x9_1 : Int) := of_decide_eq_true asm
         have q553 : x9_1 < (l0_2.length : Int) := of_decide_eq_true asm
         obtain ⟨ad553, e553, hx553_0, hx553_1, hx553_2, hx553_3⟩ := at_T98 HR0_2.out x9_1 p553 q553
         obtain rfl : ad551 = ad553 := (by injection e553)
         replace hx553_0 := (HB.out.cell (World.block_lt_of_cell? w _ hx553_0)).trans hx553_0
         replace hx553_1 := (HB.out.cell (World.block_lt_of_cell? w _ hx553_1)).trans hx553_1
         replace hx553_2 := (HB.out.cell (World.block_lt_of_cell? w _ hx553_2)).trans hx553_2
         replace hx553_3 := (HB.out.cell (World.block_lt_of_cell? w _ hx553_3)).trans hx553_3
         replace p553 := eq_true p553
         replace q553 := eq_true q553
         go_wp2_with (first | (go_at_call 84; (with_reducible refine (spec_l01In.calls a1 ((rd_T98 l0_2 x9_1).f0) (wrap64 ((wrap64 (((rd_T98 l0_2 x9_1).f0) + ((rd_T98 l0_2 x9_1).f1))) - 1)) false _ A29.out).mono ?_); rintro e w' ⟨rfl, ⟨nd, rfl⟩⟩; (try exact dd)))
         repeat (go_quiet (first | (go_at_call 84; (with_reducible refine (spec_l01In.calls a1 ((rd_T98 l0_2 x9_1).f0) (wrap64 ((wrap64 (((rd_T98 l0_2 x9_1).f0) + ((rd_T98 l0_2 x9_1).f1))) - 1)) false _ A29.out).mono ?_); rintro e w' ⟨rfl, ⟨nd, rfl⟩⟩; (try exact dd))); try go_wp2_with (first | (go_at_call 84; (with_reducible refine (spec_l01In.calls a1 ((rd_T98 l0_2 x9_1).f0) (wrap64 ((wrap64 (((rd_T98 l0_2 x9_1).f0) + ((rd_T98 l0_2 x9_1).f1))) - 1)) false _ A29.out).mono ?_); rintro e w' ⟨rfl, ⟨nd, rfl⟩⟩; (try exact dd))))
         go_roundg kj15
         case measure => have := HK1.out; have := HJ15.out; omega
         case rel => exact ⟨(wrap64 (x9_1 + 1)), (x542000_1), (x550002_1), (u550002), (by first | rfl | (simp; done) | (simp [*]; done)), H', ⟨by have := HK1.out; have := HJ15.out; omega⟩, ⟨rk HO_550001.out⟩, ⟨rk HO_550002.out⟩, ⟨by refine bk ?_; exact BK540.out⟩, ⟨by refine bk ?_; exact BK541.out⟩, ⟨by refine bk ?_; exact BK549.out⟩, ⟨bl HB.out⟩⟩
       ·rw [if_neg c28] at H
        exact absurd H (by simp)
      ·rw [if_neg c27] at H
       exact absurd H (by simp)
     ·replace c26 := Bool.eq_false_iff.mpr c26
      subst c26
      rw [if_neg (show ¬ (false = true) by decide)] at H
      simp only [Option.some.injEq, Prod.mk.injEq] at H
      obtain ⟨rfl, rfl, rfl, rfl⟩ := H
      have hnb45 := NB549_540.out
      have hnc45 := NB540_549.out
      have hnb46 := NB549_541.out
      have hnc46 := NB541_549.out
      obtain ⟨hcz47_0, hcz47_1, hcz47_2, hfz47_0, hfz47_1, hfz47_2⟩ := cz3 BK549.out
      have hnb48 := NB541_540.out
      have hnc48 := NB540_541.out
      obtain ⟨hcz49_0, hcz49_1, hcz49_2, hfz49_0, hfz49_1, hfz49_2⟩ := cz3 BK541.out
      obtain ⟨Ao50, co50, eo50⟩ := Kd.R_slice HO_550002.out
      subst eo50
      go_wp2
      repeat (go_quiet (fail); try go_wp2)
      refine bodyPost_ret (results_ct rfl _ _ gb541 41 #[.int .i64 t542, .slice Ao14 t543.length co14, .slice Ao50 x550002_1.length co50] (0, 0) _ rfl (by refine bk ?_; refine blk_put (cs := #[.int .i64 t542, .slice Ao14 t543.length co14, .slice none 0 0]) ?_ 2 _ rfl; refine bk ?_; refine blk_put (cs := #[.int .i64 t542, .slice none 0 0, .slice none 0 0]) ?_ 1 _ rfl; refine bk ?_; refine blk_put (cs := #[.int .i64 x542000_1, .slice none 0 0, .slice none 0 0]) ?_ 0 _ rfl; refine bk ?_; exact BK541.out) Try.underlying41 rfl (by kernel_rfl)) rfl ?_
      exact ⟨_, _, by first | rfl | (simp [errW_none, errW_some] <;> rfl) | (simp [*, errW_none, errW_some] <;> rfl), by refine rk ?_; exact Kd.R_mono (Kd.R_far (p := ⟨gb541, 2, none⟩) (Kd.R_far (p := ⟨gb541, 1, none⟩) (Kd.R_far (p := ⟨gb541, 0, none⟩) (Kd.R_types HO_550001.out BK541.out (by decide)) (fun _ hk => hk.2) (.int .i64 t542)) (fun _ hk => hk.2) (.slice Ao14 t543.length co14)) (fun _ hk => hk.2) (.slice Ao50 x550002_1.length co50)) (fun _ hk => trivial), by refine rk ?_; exact Kd.R_mono (Kd.R_far (p := ⟨gb541, 2, none⟩) (Kd.R_far (p := ⟨gb541, 1, none⟩) (Kd.R_far (p := ⟨gb541, 0, none⟩) (Kd.R_types HO_550002.out BK541.out (by decide)) (fun _ hk => hk.2) (.int .i64 t542)) (fun _ hk => hk.2) (.slice Ao14 t543.length co14)) (fun _ hk => hk.2) (.slice Ao50 x550002_1.length co50)) (fun _ hk => trivial), bl HB.out⟩
end Go.Proofs.Ytbpjidekjogfeaa.A

namespace Go.Proofs.Ytbpjidekjogfeaa.A
open Go.RowKit Go.Proofs.YtbpjidekjogfeaaW.PrintWords Go.Proofs.YtbpjidekjogfeaaW.PrintLast Go.Proofs.YtbpjidekjogfeaaW.PrintMore
attribute [local go_sem] max2_int min2_int max_two min_two max_three min_three max_four min_four   
set_option linter.unusedVariables false
set_option linter.unusedSimpArgs false
mutual
def spec_l02Column.j0 : Nat → Int → Int → List Int → List Int → Int → Int → Option (Int × List Int × (List (S98)) × Int × Int)
 | 0, _, _, _, _, _, _ => none
 | k + 1, x1, x5, x6, x1000, x1001, x1002 => (spec_NewColumn.f k x5 x6).bind fun bt572 => ((spec_l01Below.f x1000 x1001 x1002 7).bind fun bt581 => (spec_l02Column.l0 k x1 x5 bt581.1 x1000 bt581.2.1 bt581.2.2 bt572.1 bt572.2.1 bt572.2.2.1))
def spec_l02Column.l0 : Nat → Int → Int → Int → List Int → Int → Int → Int → List Int → List (S98) → Option (Int × List Int × (List (S98)) × Int × Int)
 | 0, _, _, _, _, _, _, _, _, _ => none
 | k + 1, x1, x5, x9, x1000, x1001, x1002, x581000, x581001, x581002 => if x9 > 0 then ((spec_l01Below.f x1000 x1001 x1002 6).bind fun bt584 => ((spec_l01Below.f x1000 bt584.2.1 bt584.2.2 6).bind fun bt587 => (if bt587.1 = 0 then (spec_l02Column.j2 k x1 x5 x9 (wrap64 (x1 + bt584.1)) bt587.1 (bt587.1 == 0) x1000 bt587.2.1 bt587.2.2 x581000 x581001 x581002) else (spec_l02Column.j2 k x1 x5 x9 (wrap64 (x1 + bt584.1)) bt587.1 (bt587.1 == 1) x1000 bt587.2.1 bt587.2.2 x581000 x581001 x581002)))) else (some (x581000, x581001, x581002, x1001, x1002))
def spec_l02Column.j2 : Nat → Int → Int → Int → Int → Int → Bool → List Int → Int → Int → Int → List Int → List (S98) → Option (Int × List Int × (List (S98)) × Int × Int)
 | 0, _, _, _, _, _, _, _, _, _, _, _, _ => none
 | k + 1, x1, x5, x9, x10, x42, x53, x1000, x1001, x1002, x581000, x581001, x581002 => if x53 = true then ((spec_TakeOut.f k x581000 x581001 x581002 x10).bind fun bt590 => (spec_l02Column.l0 k x1 x5 (wrap64 (x9 - 1)) x1000 x1001 x1002 bt590.1 bt590.2.1 bt590.2.2.1)) else (if x42 = 2 then ((spec_l01Below.f x1000 x1001 x1002 x5).bind fun bt598 => ((spec_l01Once.f x1000 bt598.2.1 bt598.2.2 3).bind fun bt601 => ((spec_SetJam.f k x581000 x581001 x581002 bt598.1 bt601.1).bind fun bt604 => (spec_l02Column.l0 k x1 x5 (wrap64 (x9 - 1)) x1000 bt601.2.1 bt601.2.2 bt604.1 bt604.2.1 bt604.2.2.1)))) else ((spec_l01Below.f x1000 x1001 x1002 4).bind fun bt612 => ((spec_PutIn.f k x581000 x581001 x581002 x10 (wrap64 (1 + bt612.1))).bind fun bt615 => (spec_l02Column.l0 k x1 x5 (wrap64 (x9 - 1)) x1000 bt612.2.1 bt612.2.2 bt615.1 bt615.2.1 bt615.2.2.1))))
end
def spec_l02Column.f (k : Nat) (s0_0 : List Int) (s0_1 : Int) (s0_2 : Int) (a1 : Int) : Option (Int × List Int × (List (S98)) × Int × Int) := (spec_l01Below.f s0_0 s0_1 s0_2 9).bind fun bt557 => ((some (([] : List Int) : List Int)).bind fun y560 => ((spec_l01Once.f s0_0 bt557.2.1 bt557.2.2 2).bind fun bt563 => (if bt563.1 = true then ((spec_l01Below.f s0_0 bt563.2.1 bt563.2.2 (wrap64 ((wrap64 (4 + bt557.1)) - 2))).bind fun bt566 => (if y560.length < 17592186044416 then (spec_l02Column.j0 k a1 (wrap64 (4 + bt557.1)) (y560 ++ [wrap64 (1 + bt566.1)]) s0_0 bt566.2.1 bt566.2.2) else (none))) else (spec_l02Column.j0 k a1 (wrap64 (4 + bt557.1)) y560 s0_0 bt563.2.1 bt563.2.2))))
def spec_l02Column.T11 : Bool × List (List Nat × List Nat) := (true, [([], []), ([], []), ([], []), ([2], [2]), ([3], [3]), ([0, 1, 4, 3], [0, 1, 4]), ([5], [5]), ([6], [6]), ([6], [6]), ([6], [6]), ([7, 5, 0, 1, 2, 3, 4, 5, 6, 7], [7])])
def spec_l02Column.B11 : List Nat := [0, 0, 0, 4, 12, 31, 63, 127, 127, 127, 255]
theorem spec_l02Column.tab11 : rtab .any (opsOf Try.f112 11) = spec_l02Column.T11 := by kernel_rfl
theorem spec_l02Column.bits11 : waitsOk spec_l02Column.T11.2 spec_l02Column.B11 = true := by kernel_rfl
def spec_l02Column.T16 : Bool × List (List Nat × List Nat) := (true, [([], []), ([], []), ([], []), ([1, 2], [1, 2]), ([], []), ([4, 3], [4]), ([0, 3, 5, 5], [0, 3, 5]), ([6], [6]), ([7], [7]), ([7], [7]), ([8, 6, 0, 1, 2, 3, 4, 5, 6, 7, 8], [8])])
def spec_l02Column.B16 : List Nat := [0, 0, 0, 6, 0, 30, 63, 127, 255, 255, 511]
theorem spec_l02Column.tab16 : rtab .any (opsOf Try.f112 16) = spec_l02Column.T16 := by kernel_rfl
theorem spec_l02Column.bits16 : waitsOk spec_l02Column.T16.2 spec_l02Column.B16 = true := by kernel_rfl
set_option maxHeartbeats 8000000 in
set_option maxRecDepth 100000 in
theorem spec_l02Column.calls (k : Nat) (g : Nat) (s0_0 : List Int) (s0_1 : Int) (s0_2 : Int) (a1 : Int) (r1 : Int) (r2 : List Int) (r3 : List (S98)) (r4 : Int) (r5 : Int) (w0 w : World) (hI : IsS116 w0 w g s0_0 s0_1 s0_2) (hB : Below w0.heap.size w0 w) (h : spec_l02Column.f k s0_0 s0_1 s0_2 a1 = some (r1, r2, r3, r4, r5)) :
  Calls Try.prog 112 #[.pointer (some ⟨g, 0, none⟩), .int .i64 a1] w fun e w' => ∃ v1_ v2_ : Value, e = .returned (.agg #[.int .i64 r1, v1_, v2_]) ∧ Kd.R (Kd.int .i64) 3 w' w.heap.size (fun _ => True) v1_ r2 ∧ Kd.R k98 98 w' w.heap.size (fun _ => True) v2_ r3 ∧ IsS116 w0 w' g s0_0 r4 r5 ∧ Below w0.heap.size w0 w' ∧ KeepBut w w' g none := by
 have hu41 := Try.underlying41
 have HI0 := Aside0.mk hI
 have HK := Aside0.mk (KeepBut.refl w g none)
 have HL := Aside0.mk hB.size
 clear hI
 have HW0 := Aside0.mk hB.size
 have HB := Aside0.mk hB
 clear hB
 have H : ((spec_l01Below.f s0_0 s0_1 s0_2 9).bind fun bt557 => ((some (([] : List Int) : List Int)).bind fun y560 => ((spec_l01Once.f s0_0 bt557.2.1 bt557.2.2 2).bind fun bt563 => (if bt563.1 = true then ((spec_l01Below.f s0_0 bt563.2.1 bt563.2.2 (wrap64 ((wrap64 (4 + bt557.1)) - 2))).bind fun bt566 => (if y560.length < 17592186044416 then (spec_l02Column.j0 k a1 (wrap64 (4 + bt557.1)) (y560 ++ [wrap64 (1 + bt566.1)]) s0_0 bt566.2.1 bt566.2.2) else (none))) else (spec_l02Column.j0 k a1 (wrap64 (4 + bt557.1)) y560 s0_0 bt563.2.1 bt563.2.2))))) = some (r1, r2, r3, r4, r5) := h
 clear h
 replace H := Option.bind_eq_some_iff.mp H
 obtain ⟨⟨t557, t558, t559⟩, A30, H⟩ := H
 try dsimp only at H
 have A3 := Aside0.mk A30
 clear A30
 obtain ⟨y560, hy560⟩ : ∃ y_ : List Int, y_ = (([] : List Int)) := ⟨_, rfl⟩
 replace H : ((spec_l01Once.f s0_0 t558 t559 2).bind fun bt563 => (if bt563.1 = true then ((spec_l01Below.f s0_0 bt563.2.1 bt563.2.2 (wrap64 ((wrap64 (4 + t557)) - 2))).bind fun bt566 => (if y560.length < 17592186044416 then (spec_l02Column.j0 k a1 (wrap64 (4 + t557)) (y560 ++ [wrap64 (1 + bt566.1)]) s0_0 bt566.2.1 bt566.2.2) else (none))) else (spec_l02Column.j0 k a1 (wrap64 (4 + t557)) y560 s0_0 bt563.2.1 bt563.2.2))) = some (r1, r2, r3, r4, r5) := by first | (rw [hy560]; with_reducible exact H) | (have H2_ := (Option.bind_some _ _).symm.trans H; rw [hy560]; with_reducible exact H2_) | (have H2_ := (Option.bind_some _ _).symm.trans H; with_reducible exact H2_) | with_reducible exact H | (rw [hy560]; exact H) | exact H
 have Ny560 := Aside0.mk hy560
 clear hy560
 replace H := Option.bind_eq_some_iff.mp H
 obtain ⟨⟨t563, t564, t565⟩, A40, H⟩ := H
 try dsimp only at H
 have A4 := Aside0.mk A40
 clear A40
 have HC5 := Aside0.mk H
 clear H
 go_enter Try.func112, Try.ntmps112
 go_upto_if 16 with (first | ((with_reducible refine gate_dst (N := 4) rfl ?_); refine bx (cs := #[.int .i64 0, .slice none 0 0, .slice none 0 0]) (t := 41) fun gb556 hg w6 hbox hb => ?_; replace HB := Aside0.mk (below_step (bl116 HB.out) hb); have BK556 := Aside0.mk (hbox); have GW556 := Aside0.mk ((ks HK.out hg)); have GE556 := Aside0.mk ((Nat.le_trans HW0.out (ks HK.out hg) : w0.heap.size ≤ gb556)); replace HK := Aside0.mk (KeepBut.trans (kp HK.out) (KeepBut.of_below hb g none) (.inl rfl)); have NB0_556 := Aside0.mk ((by rw [hg]; exact Nat.ne_of_lt (IsS116.lt (show IsS116 w0 _ g s0_0 s0_1 s0_2 from is116 HI0.out)) : g ≠ gb556)); have NB556_0 := Aside0.mk ((by rw [hg]; exact Nat.ne_of_gt (IsS116.lt (show IsS116 w0 _ g s0_0 s0_1 s0_2 from is116 HI0.out)) : gb556 ≠ g)); replace HI0 := Aside0.mk (IsS116.below (is116 HI0.out) hb); clear hb hbox hg) | ((with_reducible refine gate_callee (f := 78) rfl ?_); refine goesL_ (some 12) rfl rfl Try.func78 (by kernel_rfl) rfl #[.pointer (some ⟨g, 0, none⟩), .int .i64 9] rfl mapd ?_; (with_reducible refine (spec_l01Below.calls g s0_0 s0_1 s0_2 9 t557 t558 t559 w0 _ ?side1 ?side2 A3.out).mono ?_); (case side1 => exact is116 HI0.out); (case side2 => exact bl116 HB.out); rintro e w7 ⟨rfl, hi, hb, hk⟩; refine ⟨_, rfl, ?_⟩; replace BK556 := Aside0.mk (KeepBut.blk hk (g' := gb556) (o := .cells #[.int .i64 0, .slice none 0 0, .slice none 0 0] 41 (0, 0)) (bk BK556.out) NB556_0.out (by simp)); replace HK := Aside0.mk (KeepBut.trans (kp HK.out) hk (.inl rfl)); replace HB := Aside0.mk (hb); replace HI0 := Aside0.mk (hi); (try clear hb); (try clear hb2); (try clear hk); (try clear hi)) | ((with_reducible refine gate_dst (N := 14) rfl ?_); refine Kd.R_lit (Kd.int .i64) _ 3 ?hg (N := 14) ?hd (xs := ([] : List Int)) (inner := []) (ok := fun _ => True) (okp := fun _ => True) ?hr ?hp (fun _ hk => hk) trivial (Below.refl _ _) (Nat.le_refl _) (by simp) ?_; (case hd => rfl); (case hg => rfl); (case hr => first | (go_simp; done) | (go_simp; rfl)); (case hp => exact (Reps.none _ _)); intro v561 w8 ho9 hb hg_ hnew_; clear hg_ hnew_; (first | rw [← Ny560.out] at ho9 | (simp only [Int.reduceToNat] at ho9; rw [← Ny560.out] at ho9)); have HO562 := Aside0.mk (Kd.R_lower ho9 (keep_size (w := w) (g := g) (row := none) (kp HK.out))); replace HI0 := Aside0.mk (IsS116.below (is116 HI0.out) hb); replace BK556 := Aside0.mk (bb BK556.out hb); replace HK := Aside0.mk (KeepBut.trans (kp HK.out) (KeepBut.of_below hb g none) (.inl rfl)); replace HB := Aside0.mk (below_step (bl116 HB.out) hb); clear hb ho9) | ((with_reducible refine gate_callee (f := 123) rfl ?_); refine goesL_ (some 16) rfl rfl Try.func123 (by kernel_rfl) rfl #[.pointer (some ⟨g, 0, none⟩), .int .i64 2] rfl mapd ?_; (with_reducible refine (spec_l01Once.calls g s0_0 t558 t559 2 t563 t564 t565 w0 _ ?side1 ?side2 A4.out).mono ?_); (case side1 => exact is116 HI0.out); (case side2 => exact bl116 HB.out); rintro e w10 ⟨rfl, hi, hb, hk⟩; refine ⟨_, rfl, ?_⟩; replace BK556 := Aside0.mk (KeepBut.blk hk (g' := gb556) (o := .cells #[.int .i64 0, .slice none 0 0, .slice none 0 0] 41 (0, 0)) (bk BK556.out) NB556_0.out (by simp)); replace HO562 := Aside0.mk (Kd.R_mono (Kd.R_keep (IsS116.apart (show IsS116 w0 _ g s0_0 t558 t559 from is116 HI0.out) (rk HO562.out) (by decide)) hk (fun _ h => h.2)) (fun _ h => h.1)); replace HK := Aside0.mk (KeepBut.trans (kp HK.out) hk (.inl rfl)); replace HB := Aside0.mk (hb); replace HI0 := Aside0.mk (hi); (try clear hb); (try clear hb2); (try clear hk); (try clear hi)))
 (try simp only [Act.put, List.setIfInBounds_toArray, List.set_cons_zero, List.set_cons_succ])
 go_cut [6] (fun v6 wc => ∃ (kq : Nat) (x6_4 : List Int) (x1001_4 : Int) (x1002_4 : Int), Aside0 (spec_l02Column.j0 kq a1 (wrap64 (4 + t557)) x6_4 s0_0 x1001_4 x1002_4 = some (r1, r2, r3, r4, r5)) ∧ Aside0 (kq ≤ k) ∧ Aside0 (Kd.R (Kd.int .i64) 3 wc w.heap.size (fun _ => True) v6 x6_4) ∧ Aside0 (wc.heap[gb556]? = some (.cells #[.int .i64 0, (.slice none 0 0), (.slice none 0 0)] 41 (0, 0))) ∧ Aside0 (IsS116 w0 wc g s0_0 x1001_4 x1002_4) ∧ Aside0 (KeepBut w wc g none) ∧ Aside0 (Below w0.heap.size w0 wc))
 case first =>
  have H := HC5.out
  clear HC5
  by_cases c11 : t563 = true
  ·subst c11
   rw [if_pos rfl] at H
   replace H := Option.bind_eq_some_iff.mp H
   obtain ⟨⟨t566, t567, t568⟩, A120, H⟩ := H
   try dsimp only at H
   have A12 := Aside0.mk A120
   clear A120
   by_cases c13 : y560.length < 17592186044416
   ·rw [if_pos c13] at H
    have LMc13 := Aside0.mk c13
    clear c13
    obtain ⟨y569, hy569⟩ : ∃ y_ : List Int, y_ = (y560 ++ [wrap64 (1 + t566)]) := ⟨_, rfl⟩
    replace H : (spec_l02Column.j0 k a1 (wrap64 (4 + t557)) y569 s0_0 t567 t568) = some (r1, r2, r3, r4, r5) := by first | (rw [hy569]; with_reducible exact H) | (have H2_ := (Option.bind_some _ _).symm.trans H; rw [hy569]; with_reducible exact H2_) | (have H2_ := (Option.bind_some _ _).symm.trans H; with_reducible exact H2_) | with_reducible exact H | (rw [hy569]; exact H) | exact H
    have Ny569 := Aside0.mk hy569
    clear hy569
    have H' := Aside0.mk H
    clear H
    go_wp2_with (first | ((with_reducible refine gate_callee (f := 78) rfl ?_); refine goesL_ (some 21) rfl rfl Try.func78 (by kernel_rfl) rfl #[.pointer (some ⟨g, 0, none⟩), .int .i64 (wrap64 ((wrap64 (4 + t557)) - 2))] rfl mapd ?_; (with_reducible refine (spec_l01Below.calls g s0_0 t564 t565 (wrap64 ((wrap64 (4 + t557)) - 2)) t566 t567 t568 w0 _ ?side1 ?side2 A12.out).mono ?_); (case side1 => exact is116 HI0.out); (case side2 => exact bl116 HB.out); rintro e w14 ⟨rfl, hi, hb, hk⟩; refine ⟨_, rfl, ?_⟩; replace BK556 := Aside0.mk (KeepBut.blk hk (g' := gb556) (o := .cells #[.int .i64 0, .slice none 0 0, .slice none 0 0] 41 (0, 0)) (bk BK556.out) NB556_0.out (by simp)); replace HO562 := Aside0.mk (Kd.R_mono (Kd.R_keep (IsS116.apart (show IsS116 w0 _ g s0_0 t564 t565 from is116 HI0.out) (rk HO562.out) (by decide)) hk (fun _ h => h.2)) (fun _ h => h.1)); replace HK := Aside0.mk (KeepBut.trans (kp HK.out) hk (.inl rfl)); replace HB := Aside0.mk (hb); replace HI0 := Aside0.mk (hi); (try clear hb); (try clear hb2); (try clear hk); (try clear hi)) | ((with_reducible refine gate_builtin (b := .append) (xs := #[.tmp 17, .tmp 23]) rfl ?_); at_builtin; refine Kd.R_append (Kd.int .i64) w.heap.size rfl (.tmp 17) (.tmp 23) 38 3 (.int .i64 0) 8 rfl Try.underlying38 info3 rfl (by decide) (by omega) v561 y560 (wrap64 (1 + t566)) [.int .i64 (wrap64 (1 + t566))] (fun _ => True) (fun _ => False) rfl rfl ?aP (fun _ hk => hk.elim) ?aF ?aO (Below.refl _ _) ?aS ?aL ?_; (case aP => exact rfl); (case aF => exact (fun _ _ => trivial)); (case aO => exact (rk HO562.out)); (case aS => exact (keep_size (w := w) (g := g) (row := none) (kp HK.out))); (case aL => have := LMc13.out; omega); intro v570 w15 ho hb hg hat; rw [← Ny569.out] at ho; replace HI0 := Aside0.mk (IsS116.grown (is116 HI0.out) hg (IsS116.own_ne HI0.out HO562.out (by decide))); replace BK556 := Aside0.mk (blk_grown (g := gb556) (o := .cells #[.int .i64 0, .slice none 0 0, .slice none 0 0] 41 (0, 0)) (bk BK556.out) hg (Kd.R_ne HO562.out BK556.out (by decide))); replace HB := Aside0.mk (below_weaken (bl116 HB.out) HL.out hb); replace HK := Aside0.mk (KeepBut.trans (kp HK.out) (KeepBut.of_grown hg g) (Kd.R_base2 HO562.out)); have HO571 := Aside0.mk (ho); clear HO562; clear ho hb hg hat))
    go_meet
    case rel => exact ⟨_, (y569), (t567), (t568), H', ⟨by first | omega | exact Nat.le_refl _⟩, ⟨rk HO571.out⟩, ⟨by refine bk ?_; exact BK556.out⟩, ⟨is116 HI0.out⟩, ⟨kp HK.out⟩, ⟨bl116 HB.out⟩⟩
   ·rw [if_neg c13] at H
    exact absurd H (by simp)
  ·replace c11 := Bool.eq_false_iff.mpr c11
   subst c11
   rw [if_neg (show ¬ (false = true) by decide)] at H
   have H' := Aside0.mk H
   clear H
   go_wp2
   go_meet
   case rel => exact ⟨_, (y560), (t564), (t565), H', ⟨by first | omega | exact Nat.le_refl _⟩, ⟨rk HO562.out⟩, ⟨by refine bk ?_; exact BK556.out⟩, ⟨is116 HI0.out⟩, ⟨kp HK.out⟩, ⟨bl116 HB.out⟩⟩
 case rest =>
  clear HC5
  try clear c1
  try clear p2
  try clear p6
  try clear c7
  try clear c11
  try clear c12
  try clear c13
  obtain ⟨kq, x6_4, x1001_4, x1002_4, HA, HJ4, HO_6, BK556, HI0, HK, HB⟩ := hcut
  cases kq with
  | zero => exact absurd HA.out (by simp [spec_l02Column.j0])
  | succ kj4 =>
   have H := HA.out
   clear HA
   simp only [spec_l02Column.j0] at H
   replace H := Option.bind_eq_some_iff.mp H
   obtain ⟨⟨t572, t573, t576, t579⟩, A160, H⟩ := H
   try dsimp only at H
   have A16 := Aside0.mk A160
   clear A160
   replace H := Option.bind_eq_some_iff.mp H
   obtain ⟨⟨t581, t582, t583⟩, A170, H⟩ := H
   try dsimp only at H
   have A17 := Aside0.mk A170
   clear A170
   have H' := Aside0.mk H
   clear H
   obtain ⟨Ao18, co18, eo18⟩ := Kd.R_slice HO_6.out
   subst eo18
   go_wp2_with (first | ((with_reducible refine gate_callee (f := 122) rfl ?_); refine goesL_ (some 28) rfl rfl Try.func122 (by kernel_rfl) rfl #[.int .i64 (wrap64 (4 + t557)), .slice Ao18 x6_4.length co18] rfl mapd ?_; (with_reducible refine (spec_NewColumn.calls kj4 (wrap64 (4 + t557)) _ _ x6_4 t572 t573 t576 t579 _ ?side1 ?side2 A16.out).mono ?_); (case side1 => exact cb ((Kd.R_reads' HO_6.out).2.2)); (case side2 => exact (Kd.R_reads' HO_6.out).2.1); rintro e w19 ⟨v574, v577, rfl, ho0, ho1, hb⟩; refine ⟨_, rfl, ?_⟩; have HO575 := Aside0.mk (Kd.R_lower (Kd.R_new' ho0 (Kd.R_lt (rk HO_6.out))) (keep_size (w := w) (g := g) (row := none) (kp HK.out))); replace HO_6 := Aside0.mk (Kd.R_elder' (rk HO_6.out) (Kd.R_base ho0) hb); have HO578 := Aside0.mk (Kd.R_lower ho1 (keep_size (w := w) (g := g) (row := none) (kp HK.out))); replace BK556 := Aside0.mk (bb BK556.out hb); replace HI0 := Aside0.mk (IsS116.below (is116 HI0.out) hb); replace HK := Aside0.mk (KeepBut.trans (kp HK.out) (KeepBut.of_below hb g none) (.inl rfl)); replace HB := Aside0.mk (below_step (bl116 HB.out) hb); (try clear hb); (try clear hb2); (try clear hk); (try clear hi); (try clear ho0); (try clear ho1)) | ((with_reducible refine gate_dst (N := 7) rfl ?_); refine bx (cs := #[.int .i64 0, .slice none 0 0, .slice none 0 0]) (t := 41) fun gb580 hg w20 hbox hb => ?_; replace HO_6 := Aside0.mk (Kd.R_below (rk HO_6.out) hb); replace HO575 := Aside0.mk (Kd.R_below (rk HO575.out) hb); replace HO578 := Aside0.mk (Kd.R_below (rk HO578.out) hb); replace HB := Aside0.mk (below_step (bl116 HB.out) hb); have BK580 := Aside0.mk (hbox); have GW580 := Aside0.mk ((ks HK.out hg)); have GE580 := Aside0.mk ((Nat.le_trans HW0.out (ks HK.out hg) : w0.heap.size ≤ gb580)); replace HK := Aside0.mk (KeepBut.trans (kp HK.out) (KeepBut.of_below hb g none) (.inl rfl)); have NB556_580 := Aside0.mk ((nl BK556.out hg)); have NB580_556 := Aside0.mk ((ng BK556.out hg)); replace BK556 := Aside0.mk (bb BK556.out hb); have NB0_580 := Aside0.mk ((by rw [hg]; exact Nat.ne_of_lt (IsS116.lt (show IsS116 w0 _ g s0_0 x1001_4 x1002_4 from is116 HI0.out)) : g ≠ gb580)); have NB580_0 := Aside0.mk ((by rw [hg]; exact Nat.ne_of_gt (IsS116.lt (show IsS116 w0 _ g s0_0 x1001_4 x1002_4 from is116 HI0.out)) : gb580 ≠ g)); replace HI0 := Aside0.mk (IsS116.below (is116 HI0.out) hb); clear hb hbox hg; have hnb21 := NB580_556.out; have hnc21 := NB556_580.out; have hnb22 := NB580_0.out; have hnc22 := NB0_580.out; obtain ⟨hcz23_0, hcz23_1, hcz23_2, hfz23_0, hfz23_1, hfz23_2⟩ := cz3 BK580.out; obtain ⟨Ao24, co24, eo24⟩ := Kd.R_slice HO575.out; subst eo24; obtain ⟨Ao25, co25, eo25⟩ := Kd.R_slice HO578.out; subst eo25) | ((with_reducible refine gate_callee (f := 78) rfl ?_); refine goesL_ (some 32) rfl rfl Try.func78 (by kernel_rfl) rfl #[.pointer (some ⟨g, 0, none⟩), .int .i64 7] rfl mapd ?_; (with_reducible refine (spec_l01Below.calls g s0_0 x1001_4 x1002_4 7 t581 t582 t583 w0 _ ?side1 ?side2 A17.out).mono ?_); (case side1 => exact is116 HI0.out); (case side2 => exact bl116 HB.out); rintro e w26 ⟨rfl, hi, hb, hk⟩; refine ⟨_, rfl, ?_⟩; replace HO_6 := Aside0.mk (Kd.R_mono (Kd.R_keep (IsS116.apart (show IsS116 w0 _ g s0_0 x1001_4 x1002_4 from is116 HI0.out) (by refine rk ?_; exact (Kd.R_mono (Kd.R_far (p := ⟨gb580, 2, none⟩) (Kd.R_far (p := ⟨gb580, 1, none⟩) (Kd.R_far (p := ⟨gb580, 0, none⟩) (Kd.R_types HO_6.out BK580.out (by decide)) (fun _ hk => hk.2) (.int .i64 t572)) (fun _ hk => hk.2) (.slice Ao24 t573.length co24)) (fun _ hk => hk.2) (.slice Ao25 t576.length co25)) (fun _ h_ => h_.1))) (by decide)) hk (fun _ h => h.2)) (fun _ h => h.1)); replace BK556 := Aside0.mk (KeepBut.blk hk (g' := gb556) (o := .cells #[.int .i64 0, .slice none 0 0, .slice none 0 0] 41 (0, 0)) (bf BK556.out) NB556_0.out (by simp)); replace HO575 := Aside0.mk (Kd.R_mono (Kd.R_keep (IsS116.apart (show IsS116 w0 _ g s0_0 x1001_4 x1002_4 from is116 HI0.out) (by refine rk ?_; exact (Kd.R_mono (Kd.R_far (p := ⟨gb580, 2, none⟩) (Kd.R_far (p := ⟨gb580, 1, none⟩) (Kd.R_far (p := ⟨gb580, 0, none⟩) (Kd.R_types HO575.out BK580.out (by decide)) (fun _ hk => hk.2) (.int .i64 t572)) (fun _ hk => hk.2) (.slice Ao24 t573.length co24)) (fun _ hk => hk.2) (.slice Ao25 t576.length co25)) (fun _ h_ => h_.1))) (by decide)) hk (fun _ h => h.2)) (fun _ h => h.1)); replace HO578 := Aside0.mk (Kd.R_mono (Kd.R_keep (IsS116.apart (show IsS116 w0 _ g s0_0 x1001_4 x1002_4 from is116 HI0.out) (by refine rk ?_; exact (Kd.R_mono (Kd.R_far (p := ⟨gb580, 2, none⟩) (Kd.R_far (p := ⟨gb580, 1, none⟩) (Kd.R_far (p := ⟨gb580, 0, none⟩) (Kd.R_types HO578.out BK580.out (by decide)) (fun _ hk => hk.2) (.int .i64 t572)) (fun _ hk => hk.2) (.slice Ao24 t573.length co24)) (fun _ hk => hk.2) (.slice Ao25 t576.length co25)) (fun _ h_ => h_.1))) (by decide)) hk (fun _ h => h.2)) (fun _ h => h.1)); replace BK580 := Aside0.mk (KeepBut.blk hk (g' := gb580) (o := .cells #[.int .i64 t572, .slice Ao24 t573.length co24, .slice Ao25 t576.length co25] 41 (0, 0)) (by refine bk ?_; refine blk_put (cs := #[.int .i64 t572, .slice Ao24 t573.length co24, .slice none 0 0]) ?_ 2 _ rfl; refine bk ?_; refine blk_put (cs := #[.int .i64 t572, .slice none 0 0, .slice none 0 0]) ?_ 1 _ rfl; refine bk ?_; refine blk_put (cs := #[.int .i64 0, .slice none 0 0, .slice none 0 0]) ?_ 0 _ rfl; refine bk ?_; exact BK580.out) NB580_0.out (by simp)); replace HK := Aside0.mk (KeepBut.trans (kp HK.out) hk (.inl rfl)); replace HB := Aside0.mk (hb); replace HI0 := Aside0.mk (hi); (try clear hb); (try clear hb2); (try clear hk); (try clear hi)))
   go_loopg [9] kj4 (fun kq v9 w' => ∃ (x9_2 : Int) (x1001_2 : Int) (x1002_2 : Int) (x581000_2 : Int) (x581001_2 : List Int) (x581002_2 : List (S98)) (u581001 : Value) (u581002 : Value), v9 = .int .i64 x9_2 ∧ Aside0 (spec_l02Column.l0 kq a1 (wrap64 (4 + t557)) x9_2 s0_0 x1001_2 x1002_2 x581000_2 x581001_2 x581002_2 = some (r1, r2, r3, r4, r5)) ∧ Aside0 (kq ≤ kj4) ∧ Aside0 (Kd.R (Kd.int .i64) 3 w' w.heap.size (fun _ => True) u581001 x581001_2) ∧ Aside0 (Kd.R k98 98 w' w.heap.size (fun _ => True) u581002 x581002_2) ∧ Aside0 (w'.heap[gb556]? = some (.cells #[.int .i64 0, (.slice none 0 0), (.slice none 0 0)] 41 (0, 0))) ∧ Aside0 (w'.heap[gb580]? = some (.cells #[.int .i64 x581000_2, u581001, u581002] 41 (0, 0))) ∧ Aside0 (IsS116 w0 w' g s0_0 x1001_2 x1002_2) ∧ Aside0 (KeepBut w w' g none) ∧ Aside0 (Below w0.heap.size w0 w'))
   case atStart => exact ⟨(t581), (t582), (t583), (t572), (t573), (t576), (.slice Ao24 t573.length co24), (.slice Ao25 t576.length co25), (by first | rfl | (simp; done) | (simp [*]; done)), H', ⟨Nat.le_refl _⟩, ⟨by refine rk ?_; exact Kd.R_mono HO575.out (fun _ hk => trivial)⟩, ⟨rk HO578.out⟩, ⟨by refine bk ?_; exact BK556.out⟩, ⟨by refine bk ?_; exact BK580.out⟩, ⟨is116 HI0.out⟩, ⟨kp HK.out⟩, ⟨bl116 HB.out⟩⟩
   case round =>
    clear H'
    try clear c1
    try clear c2
    try clear p2
    try clear p6
    try clear c7
    try clear c11
    try clear c12
    try clear c13
    try clear c21
    try clear c22
    try clear hcz23_0
    try clear hcz23_1
    try clear hcz23_2
    try clear hfz23_0
    try clear hfz23_1
    try clear hfz23_2
    try clear p2
    try clear p6
    obtain ⟨x9_2, x1001_2, x1002_2, x581000_2, x581001_2, x581002_2, u581001, u581002, rfl, HA, HK2, HO_581001, HO_581002, BK556, BK580, HI0, HK, HB⟩ := hrel
    cases gk with
    | zero => exact absurd HA.out (by simp [spec_l02Column.l0])
    | succ k2 =>
     have H := HA.out
     clear HA
     simp only [spec_l02Column.l0] at H
     by_cases c27 : x9_2 > 0
     ·rw [if_pos c27] at H
      have c27b0 : decide (0 < x9_2) = true := decide_eq_true c27
      clear c27
      replace H := Option.bind_eq_some_iff.mp H
      obtain ⟨⟨t584, t585, t586⟩, A280, H⟩ := H
      try dsimp only at H
      have A28 := Aside0.mk A280
      clear A280
      replace H := Option.bind_eq_some_iff.mp H
      obtain ⟨⟨t587, t588, t589⟩, A290, H⟩ := H
      try dsimp only at H
      have A29 := Aside0.mk A290
      clear A290
      have HC30 := Aside0.mk H
      clear H
      go_upto_if 53 with (first | ((with_reducible refine gate_callee (f := 78) rfl ?_); refine goesL_ (some 39) rfl rfl Try.func78 (by kernel_rfl) rfl #[.pointer (some ⟨g, 0, none⟩), .int .i64 6] rfl mapd ?_; (with_reducible refine (spec_l01Below.calls g s0_0 x1001_2 x1002_2 6 t584 t585 t586 w0 _ ?side1 ?side2 A28.out).mono ?_); (case side1 => exact is116 HI0.out); (case side2 => exact bl116 HB.out); rintro e w31 ⟨rfl, hi, hb, hk⟩; refine ⟨_, rfl, ?_⟩; replace HO_581001 := Aside0.mk (Kd.R_mono (Kd.R_keep (IsS116.apart (show IsS116 w0 _ g s0_0 x1001_2 x1002_2 from is116 HI0.out) (rk HO_581001.out) (by decide)) hk (fun _ h => h.2)) (fun _ h => h.1)); replace HO_581002 := Aside0.mk (Kd.R_mono (Kd.R_keep (IsS116.apart (show IsS116 w0 _ g s0_0 x1001_2 x1002_2 from is116 HI0.out) (rk HO_581002.out) (by decide)) hk (fun _ h => h.2)) (fun _ h => h.1)); replace BK556 := Aside0.mk (KeepBut.blk hk (g' := gb556) (o := .cells #[.int .i64 0, .slice none 0 0, .slice none 0 0] 41 (0, 0)) (bk BK556.out) NB556_0.out (by simp)); replace BK580 := Aside0.mk (KeepBut.blk hk (g' := gb580) (o := .cells #[.int .i64 x581000_2, u581001, u581002] 41 (0, 0)) (bk BK580.out) NB580_0.out (by simp)); replace HK := Aside0.mk (KeepBut.trans (kp HK.out) hk (.inl rfl)); replace HB := Aside0.mk (hb); replace HI0 := Aside0.mk (hi); (try clear hb); (try clear hb2); (try clear hk); (try clear hi)) | ((with_reducible refine gate_callee (f := 78) rfl ?_); refine goesL_ (some 42) rfl rfl Try.func78 (by kernel_rfl) rfl #[.pointer (some ⟨g, 0, none⟩), .int .i64 6] rfl mapd ?_; (with_reducible refine (spec_l01Below.calls g s0_0 t585 t586 6 t587 t588 t589 w0 _ ?side1 ?side2 A29.out).mono ?_); (case side1 => exact is116 HI0.out); (case side2 => exact bl116 HB.out); rintro e w32 ⟨rfl, hi, hb, hk⟩; refine ⟨_, rfl, ?_⟩; replace HO_581001 := Aside0.mk (Kd.R_mono (Kd.R_keep (IsS116.apart (show IsS116 w0 _ g s0_0 t585 t586 from is116 HI0.out) (rk HO_581001.out) (by decide)) hk (fun _ h => h.2)) (fun _ h => h.1)); replace HO_581002 := Aside0.mk (Kd.R_mono (Kd.R_keep (IsS116.apart (show IsS116 w0 _ g s0_0 t585 t586 from is116 HI0.out) (rk HO_581002.out) (by decide)) hk (fun _ h => h.2)) (fun _ h => h.1)); replace BK556 := Aside0.mk (KeepBut.blk hk (g' := gb556) (o := .cells #[.int .i64 0, .slice none 0 0, .slice none 0 0] 41 (0, 0)) (bk BK556.out) NB556_0.out (by simp)); replace BK580 := Aside0.mk (KeepBut.blk hk (g' := gb580) (o := .cells #[.int .i64 x581000_2, u581001, u581002] 41 (0, 0)) (bk BK580.out) NB580_0.out (by simp)); replace HK := Aside0.mk (KeepBut.trans (kp HK.out) hk (.inl rfl)); replace HB := Aside0.mk (hb); replace HI0 := Aside0.mk (hi); (try clear hb); (try clear hb2); (try clear hk); (try clear hi)))
      (try simp only [Act.put, List.setIfInBounds_toArray, List.set_cons_zero, List.set_cons_succ])
      go_cut [53] (fun v53 wc => ∃ (kq : Nat) (x53_29 : Bool), v53 = .bool x53_29 ∧ Aside0 (spec_l02Column.j2 kq a1 (wrap64 (4 + t557)) x9_2 (wrap64 (a1 + t584)) t587 x53_29 s0_0 t588 t589 x581000_2 x581001_2 x581002_2 = some (r1, r2, r3, r4, r5)) ∧ Aside0 (kq ≤ k2) ∧ Aside0 (Kd.R (Kd.int .i64) 3 wc w.heap.size (fun _ => True) u581001 x581001_2) ∧ Aside0 (Kd.R k98 98 wc w.heap.size (fun _ => True) u581002 x581002_2) ∧ Aside0 (wc.heap[gb556]? = some (.cells #[.int .i64 0, (.slice none 0 0), (.slice none 0 0)] 41 (0, 0))) ∧ Aside0 (wc.heap[gb580]? = some (.cells #[.int .i64 x581000_2, u581001, u581002] 41 (0, 0))) ∧ Aside0 (IsS116 w0 wc g s0_0 t588 t589) ∧ Aside0 (KeepBut w wc g none) ∧ Aside0 (Below w0.heap.size w0 wc))
      case first =>
       have H := HC30.out
       clear HC30
       by_cases c33 : t587 = 0
       ·rw [if_pos c33] at H
        have c33b0 : (t587 == 0) = true := beq_iff_eq.mpr c33
        have c33b1 : (t587 != 0) = false := bne_eq_false_iff_eq.mpr c33
        clear c33
        (first | rw [c33b0] | (simp only [i64_w, i32_w]; rw [c33b0]) | skip)
        have H' := Aside0.mk H
        clear H
        go_wp2
        go_meet
        case rel => exact ⟨_, ((t587 == 0)), (by first | rfl | (simp; done) | (simp [*]; done)), H', ⟨by have := HJ4.out; have := HK2.out; first | omega | exact Nat.le_refl _⟩, ⟨rk HO_581001.out⟩, ⟨rk HO_581002.out⟩, ⟨by refine bk ?_; exact BK556.out⟩, ⟨by refine bk ?_; exact BK580.out⟩, ⟨is116 HI0.out⟩, ⟨kp HK.out⟩, ⟨bl116 HB.out⟩⟩
       ·rw [if_neg c33] at H
        have c33b0 : (t587 == 0) = false := beq_eq_false_iff_ne.mpr c33
        have c33b1 : (t587 != 0) = true := bne_iff_ne.mpr c33
        (first | rw [c33b0] | (simp only [i64_w, i32_w]; rw [c33b0]) | skip)
        have H' := Aside0.mk H
        clear H
        go_wp2
        go_meet
        case rel => exact ⟨_, ((t587 == 1)), (by first | rfl | (simp; done) | (simp [*]; done)), H', ⟨by have := HJ4.out; have := HK2.out; first | omega | exact Nat.le_refl _⟩, ⟨rk HO_581001.out⟩, ⟨rk HO_581002.out⟩, ⟨by refine bk ?_; exact BK556.out⟩, ⟨by refine bk ?_; exact BK580.out⟩, ⟨is116 HI0.out⟩, ⟨kp HK.out⟩, ⟨bl116 HB.out⟩⟩
      case rest =>
       clear HC30
       try clear c1
       try clear c2
       try clear p2
       try clear c3
       try clear p6
       try clear c7
       try clear c11
       try clear c12
       try clear c13
       try clear c21
       try clear c22
       try clear c27
       try clear c27b0
       try clear c33
       try clear c33b0
       try clear c33b1
       try clear hcz23_0
       try clear hcz23_1
       try clear hcz23_2
       try clear hfz23_0
       try clear hfz23_1
       try clear hfz23_2
       try clear p2
       try clear p6
       obtain ⟨kq, x53_29, rfl, HA, HJ29, HO_581001, HO_581002, BK556, BK580, HI0, HK, HB⟩ := hcut
       cases kq with
       | zero => exact absurd HA.out (by simp [spec_l02Column.j2])
       | succ kj29 =>
        have H := HA.out
        clear HA
        simp only [spec_l02Column.j2] at H
        by_cases c34 : x53_29 = true
        ·subst c34
         rw [if_pos rfl] at H
         replace H := Option.bind_eq_some_iff.mp H
         obtain ⟨⟨t590, t591, t594, t597⟩, A350, H⟩ := H
         try dsimp only at H
         have A35 := Aside0.mk A350
         clear A350
         have H' := Aside0.mk H
         clear H
         have hnb36 := NB580_556.out
         have hnc36 := NB556_580.out
         have hnb37 := NB580_0.out
         have hnc37 := NB0_580.out
         obtain ⟨hcz38_0, hcz38_1, hcz38_2, hfz38_0, hfz38_1, hfz38_2⟩ := cz3 BK580.out
         obtain ⟨Ao39, co39, eo39⟩ := Kd.R_slice HO_581001.out
         subst eo39
         obtain ⟨Ao40, co40, eo40⟩ := Kd.R_slice HO_581002.out
         subst eo40
         go_wp2_with (first | ((with_reducible refine gate_callee (f := 71) rfl ?_); refine goesL_ (some 59) rfl rfl Try.func71 (by kernel_rfl) rfl #[.agg #[.int .i64 x581000_2, .slice Ao39 x581001_2.length co39, .slice Ao40 x581002_2.length co40], .int .i64 (wrap64 (a1 + t584))] rfl mapd ?_; (with_reducible refine (spec_TakeOut.calls kj29 x581000_2 _ _ x581001_2 _ _ x581002_2 (wrap64 (a1 + t584)) t590 t591 t594 t597 _ ?side1 ?side2 ?side3 ?side4 A35.out).mono ?_); (case side1 => exact cb ((Kd.R_reads' HO_581001.out).2.2)); (case side2 => exact (Kd.R_reads' HO_581001.out).2.1); (case side3 => exact cb ((Kd.R_reads' HO_581002.out).2.2)); (case side4 => exact (Kd.R_reads' HO_581002.out).2.1); rintro e w41 ⟨v592, v595, rfl, ho0, ho1, hb⟩; refine ⟨_, rfl, ?_⟩; have HO593 := Aside0.mk (Kd.R_lower (Kd.R_new' ho0 (Kd.R_lt (rk HO_581001.out))) (keep_size (w := w) (g := g) (row := none) (kp HK.out))); replace HO_581001 := Aside0.mk (Kd.R_elder' (rk HO_581001.out) (Kd.R_base ho0) hb); have HO596 := Aside0.mk (Kd.R_lower (Kd.R_new' ho1 (Kd.R_lt (rk HO_581002.out))) (keep_size (w := w) (g := g) (row := none) (kp HK.out))); replace HO_581002 := Aside0.mk (Kd.R_elder' (rk HO_581002.out) (Kd.R_base ho1) hb); replace BK556 := Aside0.mk (bb BK556.out hb); replace BK580 := Aside0.mk (bb BK580.out hb); replace HI0 := Aside0.mk (IsS116.below (is116 HI0.out) hb); replace HK := Aside0.mk (KeepBut.trans (kp HK.out) (KeepBut.of_below hb g none) (.inl rfl)); replace HB := Aside0.mk (below_step (bl116 HB.out) hb); (try clear hb); (try clear hb2); (try clear hk); (try clear hi); (try clear ho0); (try clear ho1); obtain ⟨hcz42_0, hcz42_1, hcz42_2, hfz42_0, hfz42_1, hfz42_2⟩ := cz3 BK580.out; obtain ⟨Ao43, co43, eo43⟩ := Kd.R_slice HO593.out; subst eo43; obtain ⟨Ao44, co44, eo44⟩ := Kd.R_slice HO596.out; subst eo44))
         go_roundg kj29
         case measure => have := HJ4.out; have := HK2.out; have := HJ29.out; omega
         case rel => exact ⟨(wrap64 (x9_2 - 1)), (t588), (t589), (t590), (t591), (t594), (.slice Ao43 t591.length co43), (.slice Ao44 t594.length co44), (by first | rfl | (simp; done) | (simp [*]; done)), H', ⟨by have := HJ4.out; have := HK2.out; have := HJ29.out; omega⟩, ⟨by refine rk ?_; exact Kd.R_mono (Kd.R_far (p := ⟨gb580, 2, none⟩) (Kd.R_far (p := ⟨gb580, 1, none⟩) (Kd.R_far (p := ⟨gb580, 0, none⟩) (Kd.R_types HO593.out BK580.out (by decide)) (fun _ hk => hk.2) (.int .i64 t590)) (fun _ hk => hk.2) (.slice Ao43 t591.length co43)) (fun _ hk => hk.2) (.slice Ao44 t594.length co44)) (fun _ hk => trivial)⟩, ⟨by refine rk ?_; exact Kd.R_mono (Kd.R_far (p := ⟨gb580, 2, none⟩) (Kd.R_far (p := ⟨gb580, 1, none⟩) (Kd.R_far (p := ⟨gb580, 0, none⟩) (Kd.R_types HO596.out BK580.out (by decide)) (fun _ hk => hk.2) (.int .i64 t590)) (fun _ hk => hk.2) (.slice Ao43 t591.length co43)) (fun _ hk => hk.2) (.slice Ao44 t594.length co44)) (fun _ hk => trivial)⟩, ⟨by refine bk ?_; refine blk_far ?_ NB556_580.out _; refine bk ?_; refine blk_far ?_ NB556_580.out _; refine bk ?_; refine blk_far ?_ NB556_580.out _; refine bk ?_; exact BK556.out⟩, ⟨by refine bk ?_; refine blk_put (cs := #[.int .i64 t590, .slice Ao43 t591.length co43, .slice Ao40 x581002_2.length co40]) ?_ 2 _ rfl; refine bk ?_; refine blk_put (cs := #[.int .i64 t590, .slice Ao39 x581001_2.length co39, .slice Ao40 x581002_2.length co40]) ?_ 1 _ rfl; refine bk ?_; refine blk_put (cs := #[.int .i64 x581000_2, .slice Ao39 x581001_2.length co39, .slice Ao40 x581002_2.length co40]) ?_ 0 _ rfl; refine bk ?_; exact BK580.out⟩, ⟨is116 HI0.out⟩, ⟨kp HK.out⟩, ⟨bl116 HB.out⟩⟩
        ·replace c34 := Bool.eq_false_iff.mpr c34
         subst c34
         rw [if_neg (show ¬ (false = true) by decide)] at H
         by_cases c45 : t587 = 2
         ·rw [if_pos c45] at H
          have c45b0 : (t587 == 2) = true := beq_iff_eq.mpr c45
          have c45b1 : (t587 != 2) = false := bne_eq_false_iff_eq.mpr c45
          clear c45
          replace H := Option.bind_eq_some_iff.mp H
          obtain ⟨⟨t598, t599, t600⟩, A460, H⟩ := H
          try dsimp only at H
          have A46 := Aside0.mk A460
          clear A460
          replace H := Option.bind_eq_some_iff.mp H
          obtain ⟨⟨t601, t602, t603⟩, A470, H⟩ := H
          try dsimp only at H
          have A47 := Aside0.mk A470
          clear A470
          replace H := Option.bind_eq_some_iff.mp H
          obtain ⟨⟨t604, t605, t608, t611⟩, A480, H⟩ := H
          try dsimp only at H
          have A48 := Aside0.mk A480
          clear A480
          have H' := Aside0.mk H
          clear H
          try go_wp2
          replace HO_581001 := Aside0.mk (Kd.R_drew HO_581001.out)
          replace HO_581002 := Aside0.mk (Kd.R_drew HO_581002.out)
          replace BK556 := Aside0.mk (blk_drew BK556.out)
          replace BK580 := Aside0.mk (blk_drew BK580.out)
          replace HI0 := Aside0.mk (IsS116.drew HI0.out)
          replace HK := Aside0.mk (keep_drew HK.out)
          replace HB := Aside0.mk (below_drew1 HB.out)
          refine start_ (n := 11) (S := fun w' => w'.cell? ⟨gb580, 0, none⟩ = some (.int .i64 x581000_2) ∧ w'.cell? ⟨gb580, 1, none⟩ = some (u581001) ∧ w'.cell? ⟨gb580, 2, none⟩ = some (u581002)) (ds := [10]) #[false, false, false, false, false, false, false, false, false, false, false] (by kernel_rfl) rfl rfl ⟨(blk_cell BK580.out 0).trans rfl, (blk_cell BK580.out 1).trans rfl, (blk_cell BK580.out 2).trans rfl⟩ (fun hHeld => ?_); refine with_tabW spec_l02Column.tab16 spec_l02Column.bits16 (fun HT_ HW_ => ?_)
          generalize wc.drew = w49 at HO_581001 HO_581002 BK556 BK580 HI0 HK HB hHeld ⊢
          refine puA (i := 1) (N := some 66) HT_.out ?_
          refine puA (i := 2) (N := some 67) HT_.out ?_
          refine puA (i := 4) (N := some 69) HT_.out ?_
          refine tkA3 (i := 0) (N := some 65) HT_.out HW_.out hHeld ?_
          refine onA (i := 3) (N := some 68) HT_.out (fun K hK => ?_)
          refine goes_ Try.func78 (by kernel_rfl) rfl #[.pointer (some ⟨g, 0, none⟩), .int .i64 (wrap64 (4 + t557))] (by rfl) rfl rfl mapd ?_
          with_reducible refine (spec_l01Below.calls g s0_0 t588 t589 (wrap64 (4 + t557)) t598 t599 t600 w0 _ ?side1 ?side2 A46.out).mono ?_
          (case side1 => exact is116 HI0.out)
          (case side2 => exact bl116 HB.out)
          rintro e w50 ⟨rfl, hi, hb, hk⟩
          refine ⟨_, rfl, ?_⟩
          replace HO_581001 := Aside0.mk (Kd.R_mono (Kd.R_keep (IsS116.apart (show IsS116 w0 _ g s0_0 t588 t589 from is116 HI0.out) (rk HO_581001.out) (by decide)) hk (fun _ h => h.2)) (fun _ h => h.1))
          replace HO_581002 := Aside0.mk (Kd.R_mono (Kd.R_keep (IsS116.apart (show IsS116 w0 _ g s0_0 t588 t589 from is116 HI0.out) (rk HO_581002.out) (by decide)) hk (fun _ h => h.2)) (fun _ h => h.1))
          replace BK556 := Aside0.mk (KeepBut.blk hk (g' := gb556) (o := .cells #[.int .i64 0, .slice none 0 0, .slice none 0 0] 41 (0, 0)) (bk BK556.out) NB556_0.out (by simp))
          replace BK580 := Aside0.mk (KeepBut.blk hk (g' := gb580) (o := .cells #[.int .i64 x581000_2, u581001, u581002] 41 (0, 0)) (bk BK580.out) NB580_0.out (by simp))
          replace HK := Aside0.mk (KeepBut.trans (kp HK.out) hk (.inl rfl))
          replace HB := Aside0.mk (hb)
          replace HI0 := Aside0.mk (hi)
          (try clear hb)
          (try clear hb2)
          (try clear hk)
          (try clear hi)
          refine hK.out _ _ ⟨(blk_cell BK580.out 0).trans rfl, (blk_cell BK580.out 1).trans rfl, (blk_cell BK580.out 2).trans rfl⟩ (fun hHeld => ?_)
          clear hK K
          refine norm_ (a' := ?_) ?_ ?_
          rotate_left
          ·show Act.put _ (some 68) _ = _
           simp only [Act.put, List.setIfInBounds_toArray, List.set_cons_zero, List.set_cons_succ, i64_w, i32_w]
           rfl
          refine onA (i := 5) (N := some 70) HT_.out (fun K hK => ?_)
          refine goes_ Try.func123 (by kernel_rfl) rfl #[.pointer (some ⟨g, 0, none⟩), .int .i64 3] (by rfl) rfl rfl mapd ?_
          with_reducible refine (spec_l01Once.calls g s0_0 t599 t600 3 t601 t602 t603 w0 _ ?side1 ?side2 A47.out).mono ?_
          (case side1 => exact is116 HI0.out)
          (case side2 => exact bl116 HB.out)
          rintro e w51 ⟨rfl, hi, hb, hk⟩
          refine ⟨_, rfl, ?_⟩
          replace HO_581001 := Aside0.mk (Kd.R_mono (Kd.R_keep (IsS116.apart (show IsS116 w0 _ g s0_0 t599 t600 from is116 HI0.out) (rk HO_581001.out) (by decide)) hk (fun _ h => h.2)) (fun _ h => h.1))
          replace HO_581002 := Aside0.mk (Kd.R_mono (Kd.R_keep (IsS116.apart (show IsS116 w0 _ g s0_0 t599 t600 from is116 HI0.out) (rk HO_581002.out) (by decide)) hk (fun _ h => h.2)) (fun _ h => h.1))
          replace BK556 := Aside0.mk (KeepBut.blk hk (g' := gb556) (o := .cells #[.int .i64 0, .slice none 0 0, .slice none 0 0] 41 (0, 0)) (bk BK556.out) NB556_0.out (by simp))
          replace BK580 := Aside0.mk (KeepBut.blk hk (g' := gb580) (o := .cells #[.int .i64 x581000_2, u581001, u581002] 41 (0, 0)) (bk BK580.out) NB580_0.out (by simp))
          replace HK := Aside0.mk (KeepBut.trans (kp HK.out) hk (.inl rfl))
          replace HB := Aside0.mk (hb)
          replace HI0 := Aside0.mk (hi)
          (try clear hb)
          (try clear hb2)
          (try clear hk)
          (try clear hi)
          obtain ⟨Ao52, co52, eo52⟩ := Kd.R_slice HO_581001.out
          (first | subst eo52 | (injection eo52 with f1_ f2_ f3_; have f4_ := f1_.symm; have f5_ := f3_.symm; clear f1_ f2_ f3_; subst f4_; subst f5_))
          obtain ⟨Ao53, co53, eo53⟩ := Kd.R_slice HO_581002.out
          (first | subst eo53 | (injection eo53 with f1_ f2_ f3_; have f4_ := f1_.symm; have f5_ := f3_.symm; clear f1_ f2_ f3_; subst f4_; subst f5_))
          refine hK.out _ _ ⟨(blk_cell BK580.out 0).trans rfl, (blk_cell BK580.out 1).trans rfl, (blk_cell BK580.out 2).trans rfl⟩ (fun hHeld => ?_)
          clear hK K
          refine norm_ (a' := ?_) ?_ ?_
          rotate_left
          ·show Act.put _ (some 70) _ = _
           simp only [Act.put, List.setIfInBounds_toArray, List.set_cons_zero, List.set_cons_succ, i64_w, i32_w]
           rfl
          refine onA (i := 6) (N := some 71) HT_.out (fun K hK => ?_)
          refine goes_ Try.func125 (by kernel_rfl) rfl #[.agg #[.int .i64 x581000_2, .slice Ao52 x581001_2.length co52, .slice Ao53 x581002_2.length co53], .int .i64 t598, .bool t601] (by rfl) rfl rfl mapd ?_
          with_reducible refine (spec_SetJam.calls kj29 x581000_2 _ _ x581001_2 _ _ x581002_2 t598 t601 t604 t605 t608 t611 _ ?side1 ?side2 ?side3 ?side4 A48.out).mono ?_
          (case side1 => exact cb ((Kd.R_reads' HO_581001.out).2.2))
          (case side2 => exact (Kd.R_reads' HO_581001.out).2.1)
          (case side3 => exact cb ((Kd.R_reads' HO_581002.out).2.2))
          (case side4 => exact (Kd.R_reads' HO_581002.out).2.1)
          rintro e w54 ⟨v606, v609, rfl, ho0, ho1, hb⟩
          refine ⟨_, rfl, ?_⟩
          have HO607 := Aside0.mk (Kd.R_lower (Kd.R_new' ho0 (Kd.R_lt (rk HO_581001.out))) (keep_size (w := w) (g := g) (row := none) (kp HK.out)))
          replace HO_581001 := Aside0.mk (Kd.R_elder' (rk HO_581001.out) (Kd.R_base ho0) hb)
          have HO610 := Aside0.mk (Kd.R_lower (Kd.R_new' ho1 (Kd.R_lt (rk HO_581002.out))) (keep_size (w := w) (g := g) (row := none) (kp HK.out)))
          replace HO_581002 := Aside0.mk (Kd.R_elder' (rk HO_581002.out) (Kd.R_base ho1) hb)
          replace BK556 := Aside0.mk (bb BK556.out hb)
          replace BK580 := Aside0.mk (bb BK580.out hb)
          replace HI0 := Aside0.mk (IsS116.below (is116 HI0.out) hb)
          replace HK := Aside0.mk (KeepBut.trans (kp HK.out) (KeepBut.of_below hb g none) (.inl rfl))
          replace HB := Aside0.mk (below_step (bl116 HB.out) hb)
          (try clear hb)
          (try clear hb2)
          (try clear hk)
          (try clear hi)
          (try clear ho0)
          (try clear ho1)
          obtain ⟨Ao56, co56, eo56⟩ := Kd.R_slice HO607.out
          (first | subst eo56 | (injection eo56 with f1_ f2_ f3_; have f4_ := f1_.symm; have f5_ := f3_.symm; clear f1_ f2_ f3_; subst f4_; subst f5_))
          obtain ⟨Ao58, co58, eo58⟩ := Kd.R_slice HO610.out
          (first | subst eo58 | (injection eo58 with f1_ f2_ f3_; have f4_ := f1_.symm; have f5_ := f3_.symm; clear f1_ f2_ f3_; subst f4_; subst f5_))
          refine hK.out _ _ ⟨(blk_cell BK580.out 0).trans rfl, (blk_cell BK580.out 1).trans rfl, (blk_cell BK580.out 2).trans rfl⟩ (fun hHeld => ?_)
          clear hK K
          refine norm_ (a' := ?_) ?_ ?_
          rotate_left
          ·show Act.put _ (some 71) _ = _
           simp only [Act.put, List.setIfInBounds_toArray, List.set_cons_zero, List.set_cons_succ, i64_w, i32_w]
           rfl
          refine puA (i := 7) (N := some 64) HT_.out ?_
          refine puA (i := 8) (N := some 72) HT_.out ?_
          refine puA (i := 9) (N := some 73) HT_.out ?_
          refine last_ (i := 10) (N := none) #[true, true, true, true, true, true, true, true, true, true, true] rfl rfl (one_of HT_.out (by kernel_rfl)) (by decide) (fun K hK => ?_)
          have hs55 : w54.cell? ⟨gb580, 0, none⟩ = some (.int .i64 x581000_2) := (blk_cell BK580.out 0).trans rfl
          have hfs55 := blk_frozen BK580.out 0
          have hns55_0 := NB556_580.out
          have hms55_0 := NB580_556.out
          have hs57 : w54.cell? ⟨gb580, 1, none⟩ = some (.slice Ao52 x581001_2.length co52) := (blk_cell BK580.out 1).trans rfl
          have hfs57 := blk_frozen BK580.out 1
          have hns57_0 := NB556_580.out
          have hms57_0 := NB580_556.out
          have hs59 : w54.cell? ⟨gb580, 2, none⟩ = some (.slice Ao53 x581002_2.length co53) := (blk_cell BK580.out 2).trans rfl
          have hfs59 := blk_frozen BK580.out 2
          have hns59_0 := NB556_580.out
          have hms59_0 := NB580_556.out
          refine skip_ (w1 := ?_) (by rfl) rfl ?_ ?_
          rotate_left
          ·go_simp
           rfl
          refine hK.out _ _ ?_
          clear hK K
          refine done_ (done_of HT_.out (by kernel_rfl)) ?_
          try go_wp2
          go_roundg kj29
          case measure => have := HJ4.out; have := HK2.out; have := HJ29.out; omega
          case rel => exact ⟨(wrap64 (x9_2 - 1)), (t602), (t603), (t604), (t605), (t608), (.slice Ao56 t605.length co56), (.slice Ao58 t608.length co58), (by first | rfl | (simp; done) | (simp [*]; done)), H', ⟨by have := HJ4.out; have := HK2.out; have := HJ29.out; omega⟩, ⟨by refine rk ?_; exact Kd.R_mono (Kd.R_far (p := ⟨gb580, 2, none⟩) (Kd.R_far (p := ⟨gb580, 1, none⟩) (Kd.R_far (p := ⟨gb580, 0, none⟩) (Kd.R_types HO607.out BK580.out (by decide)) (fun _ hk => hk.2) (.int .i64 t604)) (fun _ hk => hk.2) (.slice Ao56 t605.length co56)) (fun _ hk => hk.2) (.slice Ao58 t608.length co58)) (fun _ hk => trivial)⟩, ⟨by refine rk ?_; exact Kd.R_mono (Kd.R_far (p := ⟨gb580, 2, none⟩) (Kd.R_far (p := ⟨gb580, 1, none⟩) (Kd.R_far (p := ⟨gb580, 0, none⟩) (Kd.R_types HO610.out BK580.out (by decide)) (fun _ hk => hk.2) (.int .i64 t604)) (fun _ hk => hk.2) (.slice Ao56 t605.length co56)) (fun _ hk => hk.2) (.slice Ao58 t608.length co58)) (fun _ hk => trivial)⟩, ⟨by refine bk ?_; refine blk_far ?_ NB556_580.out _; refine bk ?_; refine blk_far ?_ NB556_580.out _; refine bk ?_; refine blk_far ?_ NB556_580.out _; refine bk ?_; exact BK556.out⟩, ⟨by refine bk ?_; refine blk_put (cs := #[.int .i64 t604, .slice Ao56 t605.length co56, .slice Ao53 x581002_2.length co53]) ?_ 2 _ rfl; refine bk ?_; refine blk_put (cs := #[.int .i64 t604, .slice Ao52 x581001_2.length co52, .slice Ao53 x581002_2.length co53]) ?_ 1 _ rfl; refine bk ?_; refine blk_put (cs := #[.int .i64 x581000_2, .slice Ao52 x581001_2.length co52, .slice Ao53 x581002_2.length co53]) ?_ 0 _ rfl; refine bk ?_; exact BK580.out⟩, ⟨is116 HI0.out⟩, ⟨kp HK.out⟩, ⟨bl116 HB.out⟩⟩
         ·rw [if_neg c45] at H
          have c45b0 : (t587 == 2) = false := beq_eq_false_iff_ne.mpr c45
          have c45b1 : (t587 != 2) = true := bne_iff_ne.mpr c45
          replace H := Option.bind_eq_some_iff.mp H
          obtain ⟨⟨t612, t613, t614⟩, A600, H⟩ := H
          try dsimp only at H
          have A60 := Aside0.mk A600
          clear A600
          replace H := Option.bind_eq_some_iff.mp H
          obtain ⟨⟨t615, t616, t619, t622, t623⟩, A610, H⟩ := H
          try dsimp only at H
          have A61 := Aside0.mk A610
          clear A610
          have H' := Aside0.mk H
          clear H
          try go_wp2
          replace HO_581001 := Aside0.mk (Kd.R_drew HO_581001.out)
          replace HO_581002 := Aside0.mk (Kd.R_drew HO_581002.out)
          replace BK556 := Aside0.mk (blk_drew BK556.out)
          replace BK580 := Aside0.mk (blk_drew BK580.out)
          replace HI0 := Aside0.mk (IsS116.drew HI0.out)
          replace HK := Aside0.mk (keep_drew HK.out)
          replace HB := Aside0.mk (below_drew1 HB.out)
          refine start_ (n := 11) (S := fun w' => w'.cell? ⟨gb580, 0, none⟩ = some (.int .i64 x581000_2) ∧ w'.cell? ⟨gb580, 1, none⟩ = some (u581001) ∧ w'.cell? ⟨gb580, 2, none⟩ = some (u581002)) (ds := [10]) #[false, false, false, false, false, false, false, false, false, false, false] (by kernel_rfl) rfl rfl ⟨(blk_cell BK580.out 0).trans rfl, (blk_cell BK580.out 1).trans rfl, (blk_cell BK580.out 2).trans rfl⟩ (fun hHeld => ?_); refine with_tabW spec_l02Column.tab11 spec_l02Column.bits11 (fun HT_ HW_ => ?_)
          generalize wc.drew = w62 at HO_581001 HO_581002 BK556 BK580 HI0 HK HB hHeld ⊢
          refine puA (i := 1) (N := some 45) HT_.out ?_
          refine puA (i := 2) (N := some 46) HT_.out ?_
          refine tkA3 (i := 0) (N := some 44) HT_.out HW_.out hHeld ?_
          refine onA (i := 3) (N := some 47) HT_.out (fun K hK => ?_)
          refine goes_ Try.func78 (by kernel_rfl) rfl #[.pointer (some ⟨g, 0, none⟩), .int .i64 4] (by rfl) rfl rfl mapd ?_
          with_reducible refine (spec_l01Below.calls g s0_0 t588 t589 4 t612 t613 t614 w0 _ ?side1 ?side2 A60.out).mono ?_
          (case side1 => exact is116 HI0.out)
          (case side2 => exact bl116 HB.out)
          rintro e w63 ⟨rfl, hi, hb, hk⟩
          refine ⟨_, rfl, ?_⟩
          replace HO_581001 := Aside0.mk (Kd.R_mono (Kd.R_keep (IsS116.apart (show IsS116 w0 _ g s0_0 t588 t589 from is116 HI0.out) (rk HO_581001.out) (by decide)) hk (fun _ h => h.2)) (fun _ h => h.1))
          replace HO_581002 := Aside0.mk (Kd.R_mono (Kd.R_keep (IsS116.apart (show IsS116 w0 _ g s0_0 t588 t589 from is116 HI0.out) (rk HO_581002.out) (by decide)) hk (fun _ h => h.2)) (fun _ h => h.1))
          replace BK556 := Aside0.mk (KeepBut.blk hk (g' := gb556) (o := .cells #[.int .i64 0, .slice none 0 0, .slice none 0 0] 41 (0, 0)) (bk BK556.out) NB556_0.out (by simp))
          replace BK580 := Aside0.mk (KeepBut.blk hk (g' := gb580) (o := .cells #[.int .i64 x581000_2, u581001, u581002] 41 (0, 0)) (bk BK580.out) NB580_0.out (by simp))
          replace HK := Aside0.mk (KeepBut.trans (kp HK.out) hk (.inl rfl))
          replace HB := Aside0.mk (hb)
          replace HI0 := Aside0.mk (hi)
          (try clear hb)
          (try clear hb2)
          (try clear hk)
          (try clear hi)
          obtain ⟨Ao64, co64, eo64⟩ := Kd.R_slice HO_581001.out
          (first | subst eo64 | (injection eo64 with f1_ f2_ f3_; have f4_ := f1_.symm; have f5_ := f3_.symm; clear f1_ f2_ f3_; subst f4_; subst f5_))
          obtain ⟨Ao65, co65, eo65⟩ := Kd.R_slice HO_581002.out
          (first | subst eo65 | (injection eo65 with f1_ f2_ f3_; have f4_ := f1_.symm; have f5_ := f3_.symm; clear f1_ f2_ f3_; subst f4_; subst f5_))
          refine hK.out _ _ ⟨(blk_cell BK580.out 0).trans rfl, (blk_cell BK580.out 1).trans rfl, (blk_cell BK580.out 2).trans rfl⟩ (fun hHeld => ?_)
          clear hK K
          refine norm_ (a' := ?_) ?_ ?_
          rotate_left
          ·show Act.put _ (some 47) _ = _
           simp only [Act.put, List.setIfInBounds_toArray, List.set_cons_zero, List.set_cons_succ, i64_w, i32_w]
           rfl
          refine puA (i := 4) (N := some 48) HT_.out ?_
          refine onA (i := 5) (N := some 49) HT_.out (fun K hK => ?_)
          refine goes_ Try.func30 (by kernel_rfl) rfl #[.agg #[.int .i64 x581000_2, .slice Ao64 x581001_2.length co64, .slice Ao65 x581002_2.length co65], .int .i64 (wrap64 (a1 + t584)), .int .i64 (wrap64 (1 + t612))] (by rfl) rfl rfl mapd ?_
          with_reducible refine (spec_PutIn.calls kj29 x581000_2 _ _ x581001_2 _ _ x581002_2 (wrap64 (a1 + t584)) (wrap64 (1 + t612)) t615 t616 t619 t622 t623 _ ?side1 ?side2 ?side3 ?side4 A61.out).mono ?_
          (case side1 => exact cb ((Kd.R_reads' HO_581001.out).2.2))
          (case side2 => exact (Kd.R_reads' HO_581001.out).2.1)
          (case side3 => exact cb ((Kd.R_reads' HO_581002.out).2.2))
          (case side4 => exact (Kd.R_reads' HO_581002.out).2.1)
          rintro e w66 ⟨v617, v620, rfl, ho0, ho1, hb⟩
          refine ⟨_, rfl, ?_⟩
          have HO618 := Aside0.mk (Kd.R_lower (Kd.R_new' ho0 (Kd.R_lt (rk HO_581001.out))) (keep_size (w := w) (g := g) (row := none) (kp HK.out)))
          replace HO_581001 := Aside0.mk (Kd.R_elder' (rk HO_581001.out) (Kd.R_base ho0) hb)
          have HO621 := Aside0.mk (Kd.R_lower (Kd.R_new' ho1 (Kd.R_lt (rk HO_581002.out))) (keep_size (w := w) (g := g) (row := none) (kp HK.out)))
          replace HO_581002 := Aside0.mk (Kd.R_elder' (rk HO_581002.out) (Kd.R_base ho1) hb)
          replace BK556 := Aside0.mk (bb BK556.out hb)
          replace BK580 := Aside0.mk (bb BK580.out hb)
          replace HI0 := Aside0.mk (IsS116.below (is116 HI0.out) hb)
          replace HK := Aside0.mk (KeepBut.trans (kp HK.out) (KeepBut.of_below hb g none) (.inl rfl))
          replace HB := Aside0.mk (below_step (bl116 HB.out) hb)
          (try clear hb)
          (try clear hb2)
          (try clear hk)
          (try clear hi)
          (try clear ho0)
          (try clear ho1)
          obtain ⟨Ao68, co68, eo68⟩ := Kd.R_slice HO618.out
          (first | subst eo68 | (injection eo68 with f1_ f2_ f3_; have f4_ := f1_.symm; have f5_ := f3_.symm; clear f1_ f2_ f3_; subst f4_; subst f5_))
          obtain ⟨Ao70, co70, eo70⟩ := Kd.R_slice HO621.out
          (first | subst eo70 | (injection eo70 with f1_ f2_ f3_; have f4_ := f1_.symm; have f5_ := f3_.symm; clear f1_ f2_ f3_; subst f4_; subst f5_))
          refine hK.out _ _ ⟨(blk_cell BK580.out 0).trans rfl, (blk_cell BK580.out 1).trans rfl, (blk_cell BK580.out 2).trans rfl⟩ (fun hHeld => ?_)
          clear hK K
          refine norm_ (a' := ?_) ?_ ?_
          rotate_left
          ·show Act.put _ (some 49) _ = _
           simp only [Act.put, List.setIfInBounds_toArray, List.set_cons_zero, List.set_cons_succ, i64_w, i32_w]
           rfl
          refine puA (i := 6) (N := some 43) HT_.out ?_
          refine puA (i := 7) (N := some 50) HT_.out ?_
          refine puA (i := 8) (N := some 51) HT_.out ?_
          refine puA (i := 9) (N := some 52) HT_.out ?_
          refine last_ (i := 10) (N := none) #[true, true, true, true, true, true, true, true, true, true, true] rfl rfl (one_of HT_.out (by kernel_rfl)) (by decide) (fun K hK => ?_)
          have hs67 : w66.cell? ⟨gb580, 0, none⟩ = some (.int .i64 x581000_2) := (blk_cell BK580.out 0).trans rfl
          have hfs67 := blk_frozen BK580.out 0
          have hns67_0 := NB556_580.out
          have hms67_0 := NB580_556.out
          have hs69 : w66.cell? ⟨gb580, 1, none⟩ = some (.slice Ao64 x581001_2.length co64) := (blk_cell BK580.out 1).trans rfl
          have hfs69 := blk_frozen BK580.out 1
          have hns69_0 := NB556_580.out
          have hms69_0 := NB580_556.out
          have hs71 : w66.cell? ⟨gb580, 2, none⟩ = some (.slice Ao65 x581002_2.length co65) := (blk_cell BK580.out 2).trans rfl
          have hfs71 := blk_frozen BK580.out 2
          have hns71_0 := NB556_580.out
          have hms71_0 := NB580_556.out
          refine skip_ (w1 := ?_) (by rfl) rfl ?_ ?_
          rotate_left
          ·go_simp
           rfl
          refine hK.out _ _ ?_
          clear hK K
          refine done_ (done_of HT_.out (by kernel_rfl)) ?_
          try go_wp2
          go_roundg kj29
          case measure => have := HJ4.out; have := HK2.out; have := HJ29.out; omega
          case rel => exact ⟨(wrap64 (x9_2 - 1)), (t613), (t614), (t615), (t616), (t619), (.slice Ao68 t616.length co68), (.slice Ao70 t619.length co70), (by first | rfl | (simp; done) | (simp [*]; done)), H', ⟨by have := HJ4.out; have := HK2.out; have := HJ29.out; omega⟩, ⟨by refine rk ?_; exact Kd.R_mono (Kd.R_far (p := ⟨gb580, 2, none⟩) (Kd.R_far (p := ⟨gb580, 1, none⟩) (Kd.R_far (p := ⟨gb580, 0, none⟩) (Kd.R_types HO618.out BK580.out (by decide)) (fun _ hk => hk.2) (.int .i64 t615)) (fun _ hk => hk.2) (.slice Ao68 t616.length co68)) (fun _ hk => hk.2) (.slice Ao70 t619.length co70)) (fun _ hk => trivial)⟩, ⟨by refine rk ?_; exact Kd.R_mono (Kd.R_far (p := ⟨gb580, 2, none⟩) (Kd.R_far (p := ⟨gb580, 1, none⟩) (Kd.R_far (p := ⟨gb580, 0, none⟩) (Kd.R_types HO621.out BK580.out (by decide)) (fun _ hk => hk.2) (.int .i64 t615)) (fun _ hk => hk.2) (.slice Ao68 t616.length co68)) (fun _ hk => hk.2) (.slice Ao70 t619.length co70)) (fun _ hk => trivial)⟩, ⟨by refine bk ?_; refine blk_far ?_ NB556_580.out _; refine bk ?_; refine blk_far ?_ NB556_580.out _; refine bk ?_; refine blk_far ?_ NB556_580.out _; refine bk ?_; exact BK556.out⟩, ⟨by refine bk ?_; refine blk_put (cs := #[.int .i64 t615, .slice Ao68 t616.length co68, .slice Ao65 x581002_2.length co65]) ?_ 2 _ rfl; refine bk ?_; refine blk_put (cs := #[.int .i64 t615, .slice Ao64 x581001_2.length co64, .slice Ao65 x581002_2.length co65]) ?_ 1 _ rfl; refine bk ?_; refine blk_put (cs := #[.int .i64 x581000_2, .slice Ao64 x581001_2.length co64, .slice Ao65 x581002_2.length co65]) ?_ 0 _ rfl; refine bk ?_; exact BK580.out⟩, ⟨is116 HI0.out⟩, ⟨kp HK.out⟩, ⟨bl116 HB.out⟩⟩
     ·rw [if_neg c27] at H
      have c27b0 : decide (0 < x9_2) = false := decide_eq_false c27
      clear c27
      simp only [Option.some.injEq, Prod.mk.injEq] at H
      obtain ⟨rfl, rfl, rfl, rfl, rfl⟩ := H
      have hnb72 := NB580_556.out
      have hnc72 := NB556_580.out
      have hnb73 := NB580_0.out
      have hnc73 := NB0_580.out
      obtain ⟨hcz74_0, hcz74_1, hcz74_2, hfz74_0, hfz74_1, hfz74_2⟩ := cz3 BK580.out
      have hnb75 := NB556_0.out
      have hnc75 := NB0_556.out
      obtain ⟨hcz76_0, hcz76_1, hcz76_2, hfz76_0, hfz76_1, hfz76_2⟩ := cz3 BK556.out
      obtain ⟨Ao77, co77, eo77⟩ := Kd.R_slice HO_581001.out
      subst eo77
      obtain ⟨Ao78, co78, eo78⟩ := Kd.R_slice HO_581002.out
      subst eo78
      go_wp2
      refine bodyPost_ret (results_cell_row rfl _ _ gb556 41 #[.int .i64 x581000_2, .slice Ao77 x581001_2.length co77, .slice Ao78 x581002_2.length co78] (0, 0) _ rfl (by refine bk ?_; refine blk_put (cs := #[.int .i64 x581000_2, .slice Ao77 x581001_2.length co77, .slice none 0 0]) ?_ 2 _ rfl; refine bk ?_; refine blk_put (cs := #[.int .i64 x581000_2, .slice none 0 0, .slice none 0 0]) ?_ 1 _ rfl; refine bk ?_; refine blk_put (cs := #[.int .i64 0, .slice none 0 0, .slice none 0 0]) ?_ 0 _ rfl; refine bk ?_; exact BK556.out) Try.underlying41 rfl (by kernel_rfl)) rfl ?_
      exact ⟨_, _, by first | rfl | (simp [errW_none, errW_some] <;> rfl) | (simp [*, errW_none, errW_some] <;> rfl), by refine rk ?_; exact Kd.R_mono (Kd.R_far (p := ⟨gb556, 2, none⟩) (Kd.R_far (p := ⟨gb556, 1, none⟩) (Kd.R_far (p := ⟨gb556, 0, none⟩) (Kd.R_types HO_581001.out BK556.out (by decide)) (fun _ hk => hk.2) (.int .i64 x581000_2)) (fun _ hk => hk.2) (.slice Ao77 x581001_2.length co77)) (fun _ hk => hk.2) (.slice Ao78 x581002_2.length co78)) (fun _ hk => trivial), by refine rk ?_; exact Kd.R_mono (Kd.R_far (p := ⟨gb556, 2, none⟩) (Kd.R_far (p := ⟨gb556, 1, none⟩) (Kd.R_far (p := ⟨gb556, 0, none⟩) (Kd.R_types HO_581002.out BK556.out (by decide)) (fun _ hk => hk.2) (.int .i64 x581000_2)) (fun _ hk => hk.2) (.slice Ao77 x581001_2.length co77)) (fun _ hk => hk.2) (.slice Ao78 x581002_2.length co78)) (fun _ hk => trivial), is116 HI0.out, bl116 HB.out, kp HK.out⟩
end Go.Proofs.Ytbpjidekjogfeaa.A
