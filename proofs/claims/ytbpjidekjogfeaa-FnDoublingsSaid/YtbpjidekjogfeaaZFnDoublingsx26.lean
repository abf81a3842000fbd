/- Used by the law FnDoublings. -/
import Derived.Test.YtbpjidekjogfeaaZFnDoublingsx16
import Derived.Test.YtbpjidekjogfeaaZFnDoublingsx18
import Derived.Test.YtbpjidekjogfeaaZFnDoublingsx20
import Derived.Test.YtbpjidekjogfeaaZFnDoublingsx19
import Derived.Test.YtbpjidekjogfeaaZFnDoublingsx24
import Derived.Test.YtbpjidekjogfeaaZFnDoublingsx25
import Derived.Test.YtbpjidekjogfeaaZFnDoublingsx17
import Derived.Test.YtbpjidekjogfeaaZFnDoublingsx21
import Derived.ProofKit
import Derived.OpenShut
import Derived.ShutString
import Derived.ChangeOld
import Derived.SizedLaws
import Derived.ChangeArms
import Derived.Test.YtbpjidekjogfeaaZFnDoublingsh
namespace Go.Proofs.Ytbpjidekjogfeaa.A
open Go.RowKit Go.Proofs.YtbpjidekjogfeaaW.PrintWords Go.Proofs.YtbpjidekjogfeaaW.PrintLast Go.Proofs.YtbpjidekjogfeaaW.PrintMore
attribute [local go_sem] max2_int min2_int max_two min_two max_three min_three max_four min_four   
set_option linter.unusedVariables false
set_option linter.unusedSimpArgs false
mutual
def impl_HeldInOrder.j0 : Nat → List (S41) → List Int → Bool → Option (Int)
 | 0, _, _, _ => none
 | k + 1, x0, x1, x17 => if x17 = true then (some 0) else ((impl_copyBank.f k x0).bind fun t1102 => (impl_HeldInOrder.l0 k x1 t1102 x1 (x1.length : Int) 0))
def impl_HeldInOrder.l0 : Nat → List Int → List (S41) → List Int → Int → Int → Option (Int)
 | 0, _, _, _, _, _ => none
 | k + 1, x1, x5, x20, x21, x22 => if x22 < x21 then (if 0 ≤ x22 then (if x22 < (x20.length : Int) then ((impl_bankGaps.f k x5).bind fun t1106 => ((impl_least.f k t1106 (rd x20 x22)).bind fun bt1109 => (if bt1109.2.2.2 = true then (if 0 ≤ bt1109.1 then (if bt1109.1 < (x5.length : Int) then ((impl_placed.f k ((rd_T41 x5 bt1109.1).f0) ((rd_T41 x5 bt1109.1).f1) ((rd_T41 x5 bt1109.1).f2) bt1109.1 bt1109.2.1 bt1109.2.2.1 (-1) (rd x20 x22)).bind fun bt1115 => (impl_HeldInOrder.l0 k x1 (x5.set (bt1109.1 : Int).toNat (⟨bt1115.1, bt1115.2.1, bt1115.2.2⟩ : S41)) x20 x21 (wrap64 (x22 + 1)))) else (none)) else (none)) else (some x22)))) else (none)) else (none)) else (some (x1.length : Int))
end
def impl_HeldInOrder.f (k : Nat) (l0 : List (S41)) (l1 : List Int) : Option (Int) := (impl_BankOk.f l0).bind fun t1100 => (if t1100 = true then ((impl_sizesOk.f k l1).bind fun t1101 => (impl_HeldInOrder.j0 k l0 l1 (!t1101))) else (impl_HeldInOrder.j0 k l0 l1 true))
def impl_HeldInOrder.T10 : Bool × List (List Nat × List Nat) := (true, [([], []), ([], []), ([1], [1]), ([], []), ([], []), ([4], [4]), ([3, 5], [3, 5]), ([6], [6]), ([], []), ([], []), ([7, 8, 9], [7, 8, 9]), ([0, 2, 0, 1, 2, 3, 4, 5, 6, 7, 8, 9, 10], [0, 2]), ([11, 10, 10, 0, 1, 2, 3, 4, 5, 6, 7, 8, 9, 10], [10, 11])])
def impl_HeldInOrder.B10 : List Nat := [0, 0, 2, 0, 0, 16, 56, 120, 0, 0, 1016, 2047, 4095]
theorem impl_HeldInOrder.tab10 : rtab .any (opsOf Try.f47 10) = impl_HeldInOrder.T10 := by kernel_rfl
theorem impl_HeldInOrder.bits10 : waitsOk impl_HeldInOrder.T10.2 impl_HeldInOrder.B10 = true := by kernel_rfl
set_option maxHeartbeats 8000000 in
set_option maxRecDepth 100000 in
theorem impl_HeldInOrder.calls (k : Nat) (A0 : Option Addr) (c0 : Nat) (l0 : List (S41)) (A1 : Option Addr) (c1 : Nat) (l1 : List Int) (r : Int) (w : World) (hr0 : Kd.C k41 w A0 l0.length l0) (hc0 : l0.length ≤ c0) (hr1 : Kd.C (Kd.int .i64) w A1 l1.length l1) (hc1 : l1.length ≤ c1) (h : impl_HeldInOrder.f k l0 l1 = some r) :
  Calls Try.prog 47 #[.slice A0 l0.length c0, .slice A1 l1.length c1] w fun e w' => e = .returned (.int .i64 r) ∧ Below w.heap.size w w' := by
 have hu50 := Try.underlying50
 have hu41 := Try.underlying41
 have HR0 := Aside0.mk hr0
 have HC0 := Aside0.mk hc0
 clear hr0 hc0
 have HR1 := Aside0.mk hr1
 have HC1 := Aside0.mk hc1
 clear hr1 hc1
 have HB := Aside0.mk (Below.refl w.heap.size w)
 have H : ((impl_BankOk.f l0).bind fun t1100 => (if t1100 = true then ((impl_sizesOk.f k l1).bind fun t1101 => (impl_HeldInOrder.j0 k l0 l1 (!t1101))) else (impl_HeldInOrder.j0 k l0 l1 true))) = some r := h
 clear h
 have HC3 := Aside0.mk H
 clear H
 go_enter Try.func47, Try.ntmps47
 go_upto_region 1 with (fail)
 go_cut [17] (fun v17 wc => ∃ (kq : Nat) (x17_2 : Bool), v17 = .bool x17_2 ∧ Aside0 (impl_HeldInOrder.j0 kq l0 l1 x17_2 = some r) ∧ Aside0 (kq ≤ k) ∧ Aside0 (Below w.heap.size w wc))
 case first =>
  have H := HC3.out
  clear HC3
  replace H := Option.bind_eq_some_iff.mp H
  obtain ⟨t1100, A40, H⟩ := H
  try dsimp only at H
  have A4 := Aside0.mk A40
  clear A40
  by_cases c5 : t1100 = true
  ·subst c5
   rw [if_pos rfl] at H
   replace H := Option.bind_eq_some_iff.mp H
   obtain ⟨t1101, A60, H⟩ := H
   try dsimp only at H
   have A6 := Aside0.mk A60
   clear A60
   have H' := Aside0.mk H
   clear H
   go_wp2_with (first | ((with_reducible refine gate_callee (f := 51) rfl ?_); refine goesL_ (some 11) rfl rfl Try.func51 (by kernel_rfl) rfl #[.slice A0 l0.length c0] rfl mapd ?_; (with_reducible refine (impl_BankOk.calls _ _ l0 true _ ?side1 ?side2 A4.out).mono ?_); (case side1 => exact cb (Kd.C_below HR0.out HB.out)); (case side2 => exact HC0.out); rintro e w7 ⟨rfl, hb⟩; refine ⟨_, rfl, ?_⟩; replace HB := Aside0.mk (below_step (bl HB.out) hb); (try clear hb); (try clear hb2); (try clear hk); (try clear hi)) | (go_at_call 100; (with_reducible refine (impl_sizesOk.calls k _ _ l1 t1101 _ ?side1 ?side2 A6.out).mono ?_); (case side1 => exact cb (Kd.C_below HR1.out HB.out)); (case side2 => exact HC1.out); rintro e w' ⟨rfl, ⟨nd, rfl⟩⟩))
   go_meet
   case rel => exact ⟨_, (!t1101), (by first | rfl | (simp; done) | (simp [*]; done)), H', ⟨by first | omega | exact Nat.le_refl _⟩, ⟨bl HB.out⟩⟩
  ·replace c5 := Bool.eq_false_iff.mpr c5
   subst c5
   rw [if_neg (show ¬ (false = true) by decide)] at H
   have H' := Aside0.mk H
   clear H
   go_wp2_with (first | ((with_reducible refine gate_callee (f := 51) rfl ?_); refine goesL_ (some 11) rfl rfl Try.func51 (by kernel_rfl) rfl #[.slice A0 l0.length c0] rfl mapd ?_; (with_reducible refine (impl_BankOk.calls _ _ l0 false _ ?side1 ?side2 A4.out).mono ?_); (case side1 => exact cb (Kd.C_below HR0.out HB.out)); (case side2 => exact HC0.out); rintro e w8 ⟨rfl, hb⟩; refine ⟨_, rfl, ?_⟩; replace HB := Aside0.mk (below_step (bl HB.out) hb); (try clear hb); (try clear hb2); (try clear hk); (try clear hi)))
   go_meet
   case rel => exact ⟨_, (true), (by first | rfl | (simp; done) | (simp [*]; done)), H', ⟨by first | omega | exact Nat.le_refl _⟩, ⟨bl HB.out⟩⟩
 case rest =>
  clear HC3
  try clear c1
  try clear p2
  try clear c4
  try clear c5
  obtain ⟨kq, x17_2, rfl, HA, HJ2, HB⟩ := hcut
  cases kq with
  | zero => exact absurd HA.out (by simp [impl_HeldInOrder.j0])
  | succ kj2 =>
   have H := HA.out
   clear HA
   simp only [impl_HeldInOrder.j0] at H
   by_cases c9 : x17_2 = true
   ·subst c9
    rw [if_pos rfl] at H
    obtain rfl := Option.some.inj H
    go_wp2
    go_ret
    exact ⟨by first | rfl | (simp [errW_none, errW_some] <;> rfl) | (simp [*, errW_none, errW_some] <;> rfl), bl HB.out⟩
   ·replace c9 := Bool.eq_false_iff.mpr c9
    subst c9
    rw [if_neg (show ¬ (false = true) by decide)] at H
    replace H := Option.bind_eq_some_iff.mp H
    obtain ⟨t1102, A100, H⟩ := H
    try dsimp only at H
    have A10 := Aside0.mk A100
    clear A100
    have H' := Aside0.mk H
    clear H
    go_wp2_with (first | ((with_reducible refine gate_callee (f := 72) rfl ?_); refine goesL_ (some 19) rfl rfl Try.func72 (by kernel_rfl) rfl #[.slice A0 l0.length c0] rfl mapd ?_; (with_reducible refine (impl_copyBank.calls kj2 _ _ l0 t1102 _ ?side1 ?side2 A10.out).mono ?_); (case side1 => exact cb (Kd.C_below HR0.out HB.out)); (case side2 => exact HC0.out); rintro e w11 ⟨v1103, rfl, ho0, hb⟩; refine ⟨_, rfl, ?_⟩; have HO1104 := Aside0.mk (Kd.N_lower (Kd.N_mono (ok' := fun k_ => True) (Kd.S_N (Kd.S_bound ho0)) (fun k_ hk_ => trivial)) (below_size (bl HB.out))); replace HB := Aside0.mk (below_step (bl HB.out) hb); (try clear hb); (try clear hb2); (try clear hk); (try clear hi); (try clear ho0)))
    go_loopg [22] kj2 (fun kq v22 w' => ∃ (x5_2 : List (S41)) (x22_2 : Int), v22 = .int .i64 x22_2 ∧ Aside0 (impl_HeldInOrder.l0 kq l1 x5_2 l1 (l1.length : Int) x22_2 = some r) ∧ Aside0 (kq ≤ kj2) ∧ Aside0 (Kd.N k41 41 w' w.heap.size (fun _ => True) v1103 x5_2) ∧ Aside0 (Below w.heap.size w w'))
    case atStart => exact ⟨(t1102), (0), (by first | rfl | (simp; done) | (simp [*]; done)), H', ⟨Nat.le_refl _⟩, ⟨by refine nk ?_; exact HO1104.out⟩, ⟨bl HB.out⟩⟩
    case round =>
     clear H'
     try clear c1
     try clear p2
     try clear c4
     try clear c5
     try clear c7
     try clear c9
     try clear p2
     obtain ⟨x5_2, x22_2, rfl, HA, HK2, HO_5, HB⟩ := hrel
     cases gk with
     | zero => exact absurd HA.out (by simp [impl_HeldInOrder.l0])
     | succ k2 =>
      have H := HA.out
      clear HA
      simp only [impl_HeldInOrder.l0] at H
      by_cases c12 : x22_2 < (l1.length : Int)
      ·rw [if_pos c12] at H
       have c12b0 : decide (x22_2 < (l1.length : Int)) = true := decide_eq_true c12
       clear c12
       by_cases c13 : 0 ≤ x22_2
       ·rw [if_pos c13] at H
        have c13b0 : decide (0 ≤ x22_2) = true := decide_eq_true c13
        clear c13
        by_cases c14 : x22_2 < (l1.length : Int)
        ·rw [if_pos c14] at H
         have c14b0 : decide (x22_2 < (l1.length : Int)) = true := decide_eq_true c14
         clear c14
         replace H := Option.bind_eq_some_iff.mp H
         obtain ⟨t1106, A150, H⟩ := H
         try dsimp only at H
         have A15 := Aside0.mk A150
         clear A150
         replace H := Option.bind_eq_some_iff.mp H
         obtain ⟨⟨t1109, t1110, t1111, t1112⟩, A160, H⟩ := H
         try dsimp only at H
         have A16 := Aside0.mk A160
         clear A160
         by_cases c17 : t1112 = true
         ·subst c17
          rw [if_pos rfl] at H
          by_cases c18 : 0 ≤ t1109
          ·rw [if_pos c18] at H
           have c18b0 : decide (0 ≤ t1109) = true := decide_eq_true c18
           clear c18
           by_cases c19 : t1109 < (x5_2.length : Int)
           ·rw [if_pos c19] at H
            have c19b0 : decide (t1109 < (x5_2.length : Int)) = true := decide_eq_true c19
            clear c19
            replace H := Option.bind_eq_some_iff.mp H
            obtain ⟨⟨t1115, t1116, t1119⟩, A200, H⟩ := H
            try dsimp only at H
            have A20 := Aside0.mk A200
            clear A200
            obtain ⟨y1122, hy1122⟩ : ∃ y_ : List (S41), y_ = (x5_2.set (t1109 : Int).toNat (⟨t1115, t1116, t1119⟩ : S41)) := ⟨_, rfl⟩
            replace H : (impl_HeldInOrder.l0 k2 l1 y1122 l1 (l1.length : Int) (wrap64 (x22_2 + 1))) = some r := by first | (rw [hy1122]; with_reducible exact H) | (have H2_ := (Option.bind_some _ _).symm.trans H; rw [hy1122]; with_reducible exact H2_) | (have H2_ := (Option.bind_some _ _).symm.trans H; with_reducible exact H2_) | with_reducible exact H | (rw [hy1122]; exact H) | exact H
            have Ny1122 := Aside0.mk hy1122
            clear hy1122
            have H' := Aside0.mk H
            clear H
            have p1105 : 0 ≤ (x22_2 : Int) := of_decide_eq_true asm
            have q1105 : x22_2 < (l1.length : Int) := of_decide_eq_true asm
            obtain ⟨ad1105, e1105, hx1105_0⟩ := Kd.at_int HR1.out x22_2 p1105 q1105
            cases e1105
            replace hx1105_0 := (HB.out.cell (World.block_lt_of_cell? w _ hx1105_0)).trans hx1105_0
            replace p1105 := eq_true p1105
            replace q1105 := eq_true q1105
            obtain ⟨Ao22, co22, eo22⟩ := Kd.N_slice HO_5.out
            subst eo22
            try go_wp2_with (first | ((with_reducible refine gate_callee (f := 67) rfl ?_); refine goesL_ (some 29) rfl rfl Try.func67 (by kernel_rfl) rfl #[.slice Ao22 x5_2.length co22] rfl mapd ?_; (with_reducible refine (impl_bankGaps.calls k2 _ _ x5_2 t1106 _ ?side1 ?side2 A15.out).mono ?_); (case side1 => exact cb ((Kd.N_reads' HO_5.out).2.2)); (case side2 => exact (Kd.N_reads' HO_5.out).2.1); rintro e w23 ⟨v1107, rfl, ho0, hb⟩; refine ⟨_, rfl, ?_⟩; replace HO_5 := Aside0.mk (Kd.N_elder' (nk HO_5.out) (Kd.R_base ho0) hb); have HO1108 := Aside0.mk (Kd.R_lower ho0 (below_size (bl HB.out))); replace HB := Aside0.mk (below_step (bl HB.out) hb); (try clear hb); (try clear hb2); (try clear hk); (try clear hi); (try clear ho0); obtain ⟨Ao24, co24, eo24⟩ := Kd.R_slice HO1108.out; subst eo24) | ((with_reducible refine gate_callee (f := 89) rfl ?_); refine goesL_ (some 31) rfl rfl Try.func89 (by kernel_rfl) rfl #[.slice Ao24 t1106.length co24, .int .i64 (rd l1 x22_2)] rfl mapd ?_; (with_reducible refine (impl_least.calls k2 _ _ t1106 (rd l1 x22_2) t1109 t1110 t1111 true _ ?side1 ?side2 A16.out).mono ?_); (case side1 => exact cb ((Kd.R_reads' HO1108.out).2.2)); (case side2 => exact (Kd.R_reads' HO1108.out).2.1); rintro e w25 ⟨rfl, hb⟩; refine ⟨_, rfl, ?_⟩; replace HO_5 := Aside0.mk (Kd.N_below (nk HO_5.out) hb); replace HO1108 := Aside0.mk (Kd.R_below (rk HO1108.out) hb); replace HB := Aside0.mk (below_step (bl HB.out) hb); (try clear hb); (try clear hb2); (try clear hk); (try clear hi)) | ((with_reducible refine gate_dst (N := 8) rfl ?_); refine bx (cs := #[.int .i64 0, .int .i64 0, .int .i64 0]) (t := 50) fun gb1113 hg w26 hbox hb => ?_; replace HO_5 := Aside0.mk (Kd.N_below (Kd.N_elderB (nk HO_5.out) gb1113 (Nat.le_of_eq hg.symm)) hb); replace HO1108 := Aside0.mk (Kd.R_below (Kd.R_elderB (rk HO1108.out) gb1113 (Nat.le_of_eq hg.symm)) hb); have BK1113 := Aside0.mk (hbox); have GW1113 := Aside0.mk (gs HB.out hg); have GE1113 := Aside0.mk (gs HB.out hg); replace HB := Aside0.mk (below_step (bl HB.out) hb); clear hb hbox hg; obtain ⟨hcz27_0, hcz27_1, hcz27_2, hfz27_0, hfz27_1, hfz27_2⟩ := cz3 BK1113.out))
            have n0_ : Aside0 (Kd.N k41 41 (((w26.setCell ⟨gb1113, 0, none⟩ (.int .i64 t1109)).setCell ⟨gb1113, 1, none⟩ (.int .i64 t1110)).setCell ⟨gb1113, 2, none⟩ (.int .i64 t1111)) w.heap.size (fun k_ => some k_ ≠ (.slice Ao24 t1106.length co24 : Value).ownBlock ∧ k_ ≠ gb1113) (.slice Ao22 x5_2.length co22) x5_2) := ⟨by refine nk ?_; exact Kd.N_mono (Kd.N_far (p := ⟨gb1113, 2, none⟩) (Kd.N_far (p := ⟨gb1113, 1, none⟩) (Kd.N_far (p := ⟨gb1113, 0, none⟩) (Kd.N_mono HO_5.out (fun k_ hk => (⟨hk, hk.2⟩ : _ ∧ k_ ≠ gb1113))) (fun _ hk => hk.2) (.int .i64 t1109)) (fun _ hk => hk.2) (.int .i64 t1110)) (fun _ hk => hk.2) (.int .i64 t1111)) (fun _ hk => ⟨hk.1.1.2, hk.1.2⟩)⟩
            have n1_ : Aside0 (Kd.R k50 50 (((w26.setCell ⟨gb1113, 0, none⟩ (.int .i64 t1109)).setCell ⟨gb1113, 1, none⟩ (.int .i64 t1110)).setCell ⟨gb1113, 2, none⟩ (.int .i64 t1111)) w.heap.size (fun k_ => k_ ≠ gb1113) (.slice Ao24 t1106.length co24) t1106) := ⟨by refine rk ?_; exact Kd.R_mono (Kd.R_far (p := ⟨gb1113, 2, none⟩) (Kd.R_far (p := ⟨gb1113, 1, none⟩) (Kd.R_far (p := ⟨gb1113, 0, none⟩) (Kd.R_mono HO1108.out (fun k_ hk => (⟨hk, hk.2⟩ : _ ∧ k_ ≠ gb1113))) (fun _ hk => hk.2) (.int .i64 t1109)) (fun _ hk => hk.2) (.int .i64 t1110)) (fun _ hk => hk.2) (.int .i64 t1111)) (fun _ hk => hk.1.2)⟩
            have n2_ : Aside0 ((((w26.setCell ⟨gb1113, 0, none⟩ (.int .i64 t1109)).setCell ⟨gb1113, 1, none⟩ (.int .i64 t1110)).setCell ⟨gb1113, 2, none⟩ (.int .i64 t1111)).heap[gb1113]? = some (.cells #[.int .i64 t1109, .int .i64 t1110, .int .i64 t1111] 50 (0, 0))) := ⟨by refine bk ?_; refine blk_put (cs := #[.int .i64 t1109, .int .i64 t1110, .int .i64 0]) ?_ 2 _ rfl; refine bk ?_; refine blk_put (cs := #[.int .i64 t1109, .int .i64 0, .int .i64 0]) ?_ 1 _ rfl; refine bk ?_; refine blk_put (cs := #[.int .i64 0, .int .i64 0, .int .i64 0]) ?_ 0 _ rfl; refine bk ?_; exact BK1113.out⟩
            have n3_ : Aside0 (Below w.heap.size w (((w26.setCell ⟨gb1113, 0, none⟩ (.int .i64 t1109)).setCell ⟨gb1113, 1, none⟩ (.int .i64 t1110)).setCell ⟨gb1113, 2, none⟩ (.int .i64 t1111))) := ⟨bl HB.out⟩
            (try clear HO_5)
            (try clear HO1108)
            (try clear BK1113)
            (try clear HB)
            generalize (((w26.setCell ⟨gb1113, 0, none⟩ (.int .i64 t1109)).setCell ⟨gb1113, 1, none⟩ (.int .i64 t1110)).setCell ⟨gb1113, 2, none⟩ (.int .i64 t1111)) = w28 at n0_ n1_ n2_ n3_ ⊢
            have HO_5 := n0_
            have HO1108 := n1_
            have BK1113 := n2_
            have HB := n3_
            clear n0_ n1_ n2_ n3_
            replace HO_5 := Aside0.mk (Kd.N_drew HO_5.out)
            replace HO1108 := Aside0.mk (Kd.R_drew HO1108.out)
            replace BK1113 := Aside0.mk (blk_drew BK1113.out)
            replace HB := Aside0.mk (below_drew1 HB.out)
            have p1114 : 0 ≤ (t1109 : Int) := of_decide_eq_true asm
            have q1114 : t1109 < (x5_2.length : Int) := of_decide_eq_true asm
            obtain ⟨ad1114, A1114_1, c1114_1, A1114_2, c1114_2, e1114, hx1114_0, hx1114_1, hx1114_2, hl1114_1, hi1114_1, hl1114_2, hi1114_2⟩ := at_T41 (Kd.N_reads' HO_5.out).2.2 t1109 p1114 q1114
            cases e1114
            obtain ⟨ce1114, hce1114, hMe1114, hcc1114⟩ := Kd.N_get HO_5.out z41 t1109 p1114 (by first | exact q1114 | exact of_decide_eq_true asm | (have e_ := (Kd.N_reads' HO_5.out).1; omega))
            obtain ⟨ua1114_1, uc1114_1, ua1114_2, uc1114_2, rfl, ul1114_1, ge1114_1, ul1114_2, ge1114_2⟩ := k41_openF hMe1114
            have hv1114_1 := hcc1114 1 _ rfl
            rw [add_field _ _ 1 (by omega)] at hv1114_1
            replace hv1114_1 := Option.some.inj (hv1114_1.symm.trans hx1114_1)
            injection hv1114_1 with hva_ hvn_ hvc_
            rw [hva_] at ge1114_1
            rw [hvc_] at ul1114_1
            have HL1114_1 := Aside0.mk (show Kd.V (Kd.int .i64) 3 _ w.heap.size _ _ ((rd_T41 x5_2 t1109).f1) from Kd.V_mk ul1114_1 ge1114_1)
            clear hva_ hvn_ hvc_ ge1114_1 ul1114_1
            have hv1114_2 := hcc1114 2 _ rfl
            rw [add_field _ _ 2 (by omega)] at hv1114_2
            replace hv1114_2 := Option.some.inj (hv1114_2.symm.trans hx1114_2)
            injection hv1114_2 with hva_ hvn_ hvc_
            rw [hva_] at ge1114_2
            rw [hvc_] at ul1114_2
            have HL1114_2 := Aside0.mk (show Kd.V k98 98 _ w.heap.size _ _ ((rd_T41 x5_2 t1109).f2) from Kd.V_mk ul1114_2 ge1114_2)
            clear hva_ hvn_ hvc_ ge1114_2 ul1114_2
            clear hcc1114 hce1114
            have HR1114_1 := Aside0.mk hi1114_1
            have HC1114_1 := Aside0.mk hl1114_1
            clear hi1114_1 hl1114_1
            have HR1114_2 := Aside0.mk hi1114_2
            have HC1114_2 := Aside0.mk hl1114_2
            clear hi1114_2 hl1114_2
            replace p1114 := eq_true p1114
            replace q1114 := eq_true q1114
            refine start_ (n := 13) (S := fun w' => w'.cell? ⟨gb1113, 0, none⟩ = some (.int .i64 t1109) ∧ w'.cell? ⟨gb1113, 1, none⟩ = some (.int .i64 t1110) ∧ w'.cell? ⟨gb1113, 2, none⟩ = some (.int .i64 t1111) ∧ w'.cell? (ad1114.add ((t1109).toNat * 3)) = some (.int .i64 ((rd_T41 x5_2 t1109).f0)) ∧ w'.cell? ⟨(ad1114.add ((t1109).toNat * 3)).block, (ad1114.add ((t1109).toNat * 3)).off + 1, none⟩ = some (.slice A1114_1 ((rd_T41 x5_2 t1109).f1).length c1114_1) ∧ w'.cell? ⟨(ad1114.add ((t1109).toNat * 3)).block, (ad1114.add ((t1109).toNat * 3)).off + 2, none⟩ = some (.slice A1114_2 ((rd_T41 x5_2 t1109).f2).length c1114_2)) (ds := [12]) #[false, false, false, false, false, false, false, false, false, false, false, false, false] (by kernel_rfl) rfl rfl ⟨(blk_cell BK1113.out 0).trans rfl, (blk_cell BK1113.out 1).trans rfl, (blk_cell BK1113.out 2).trans rfl, hx1114_0, hx1114_1, hx1114_2⟩ (fun hHeld => ?_); refine with_tabW impl_HeldInOrder.tab10 impl_HeldInOrder.bits10 (fun HT_ HW_ => ?_)
            generalize w28.drew = w29 at HO_5 HO1108 BK1113 HB HL1114_1 HL1114_2 HR1114_1 HR1114_2 hx1114_0 hx1114_1 hx1114_2 hHeld ⊢
            refine puA (i := 0) (N := some 37) HT_.out ?_
            refine puA (i := 1) (N := some 38) HT_.out ?_
            refine puA (i := 3) (N := some 40) HT_.out ?_
            refine puA (i := 4) (N := some 41) HT_.out ?_
            refine puA (i := 9) (N := some 46) HT_.out ?_
            refine tkA6 (i := 2) (N := some 39) HT_.out HW_.out hHeld ?_
            refine tkA6 (i := 5) (N := some 42) HT_.out HW_.out hHeld ?_
            refine puA (i := 6) (N := some 43) HT_.out ?_
            refine tkA6 (i := 7) (N := some 44) HT_.out HW_.out hHeld ?_
            refine tkA6 (i := 8) (N := some 45) HT_.out HW_.out hHeld ?_
            refine onA (i := 10) (N := some 47) HT_.out (fun K hK => ?_)
            refine goes_ Try.func82 (by kernel_rfl) rfl #[.agg #[.int .i64 ((rd_T41 x5_2 t1109).f0), .slice A1114_1 ((rd_T41 x5_2 t1109).f1).length c1114_1, .slice A1114_2 ((rd_T41 x5_2 t1109).f2).length c1114_2], .agg #[.int .i64 t1109, .int .i64 t1110, .int .i64 t1111], .int .i64 (-1), .int .i64 (rd l1 x22_2)] (by rfl) rfl rfl mapd ?_
            with_reducible refine (impl_placed.calls k2 ((rd_T41 x5_2 t1109).f0) _ _ ((rd_T41 x5_2 t1109).f1) _ _ ((rd_T41 x5_2 t1109).f2) t1109 t1110 t1111 (-1) (rd l1 x22_2) t1115 t1116 t1119 _ ?side1 ?side2 ?side3 ?side4 A20.out).mono ?_
            (case side1 => exact cb ((by repeat (first | (with_reducible exact HR1114_1.out) | (with_reducible refine Kd.C_alloc ?_ _) | (with_reducible refine Kd.C_drewN ?_ _) | (with_reducible refine Kd.C_drew ?_) | exact HR1114_1.out))))
            (case side2 => exact HC1114_1.out)
            (case side3 => exact cb ((by repeat (first | (with_reducible exact HR1114_2.out) | (with_reducible refine Kd.C_alloc ?_ _) | (with_reducible refine Kd.C_drewN ?_ _) | (with_reducible refine Kd.C_drew ?_) | exact HR1114_2.out))))
            (case side4 => exact HC1114_2.out)
            rintro e w30 ⟨v1117, v1120, rfl, ho0, ho1, hb⟩
            have HS3_ := (hb.cell (World.block_lt_of_cell? _ _ (hHeld.2.2.2.1))).trans (hHeld.2.2.2.1)
            have HS4_ := (hb.cell (World.block_lt_of_cell? _ _ (hHeld.2.2.2.2.1))).trans (hHeld.2.2.2.2.1)
            have HS5_ := (hb.cell (World.block_lt_of_cell? _ _ (hHeld.2.2.2.2.2))).trans (hHeld.2.2.2.2.2)
            refine ⟨_, rfl, ?_⟩
            replace HO_5 := Aside0.mk (Kd.N_mono (Kd.N_told (Kd.N_told (Kd.N_old (nk HO_5.out) hb) (Kd.R_base ho0)) (Kd.R_base ho1)) (fun _ h_ => h_.1))
            replace HO1108 := Aside0.mk (Kd.R_below (rk HO1108.out) hb)
            replace HL1114_1 := Aside0.mk (Kd.V_mono (Kd.V_told (Kd.V_told (Kd.V_old (by (with_reducible repeat (first | apply Kd.V_alloc | apply Kd.V_drewN | apply Kd.V_drew)); exact HL1114_1.out) hb) (Kd.R_base ho0)) (Kd.R_base ho1)) (fun _ h_ => h_.1))
            replace HL1114_2 := Aside0.mk (Kd.V_mono (Kd.V_told (Kd.V_told (Kd.V_old (by (with_reducible repeat (first | apply Kd.V_alloc | apply Kd.V_drewN | apply Kd.V_drew)); exact HL1114_2.out) hb) (Kd.R_base ho0)) (Kd.R_base ho1)) (fun _ h_ => h_.1))
            have HO1118 := Aside0.mk (Kd.R_lower ho0 (below_size (bl HB.out)))
            have HO1121 := Aside0.mk (Kd.R_lower ho1 (below_size (bl HB.out)))
            replace BK1113 := Aside0.mk (bb BK1113.out hb)
            replace HR1114_1 := Aside0.mk (Kd.C_below (by repeat (first | (with_reducible exact HR1114_1.out) | (with_reducible refine Kd.C_alloc ?_ _) | (with_reducible refine Kd.C_drewN ?_ _) | (with_reducible refine Kd.C_drew ?_) | exact HR1114_1.out)) hb)
            replace HR1114_2 := Aside0.mk (Kd.C_below (by repeat (first | (with_reducible exact HR1114_2.out) | (with_reducible refine Kd.C_alloc ?_ _) | (with_reducible refine Kd.C_drewN ?_ _) | (with_reducible refine Kd.C_drew ?_) | exact HR1114_2.out)) hb)
            replace HB := Aside0.mk (below_step (bl HB.out) hb)
            (try clear hb)
            (try clear hb2)
            (try clear hk)
            (try clear hi)
            (try clear ho0)
            (try clear ho1)
            obtain ⟨Ah1_, ch1_, eh1_⟩ := Kd.R_slice HO1118.out
            subst eh1_
            obtain ⟨Ah2_, ch2_, eh2_⟩ := Kd.R_slice HO1121.out
            subst eh2_
            have p21 : 0 ≤ (t1109 : Int) := of_decide_eq_true asm
            have q21 : (t1109 : Int) < ((x5_2.length : Int) : Int) := of_decide_eq_true asm
            obtain ⟨go21, co21, eo21, gb21, gl21, cl21, HG21⟩ := Kd.N_form HO_5.out (by omega)
            (first | cases eo21 | (injection eo21 with ea_ en_ ec_; (first | subst ea_ | (injection ea_ with ea_; subst ea_)); subst ec_; clear en_))
            have GB21 := Aside0.mk gb21
            have GG21 := Aside0.mk HG21
            clear gb21 gl21 HG21
            (first | simp only [add_plain] at hx1114_0 | skip)
            (first | simp only [add_plain] at hx1114_1 | skip)
            (first | simp only [add_plain] at hx1114_2 | skip)
            obtain ⟨ce21, hcl21, hM21, hcc21, hfr21⟩ := Kd.N_elem HO_5.out z41 (t1109 : Int) p21 q21
            obtain ⟨ua21_1, uc21_1, ua21_2, uc21_2, rfl, ul21_1, ge21_1, ul21_2, ge21_2⟩ := k41_openF hM21
            have hx21_0 : World.cell? _ ⟨go21, (t1109 : Int).toNat * 3, none⟩ = some (.int .i64 ((rd_T41 x5_2 t1109).f0)) := hcc21 0 _ rfl
            have hx21_1 : World.cell? _ ⟨go21, (t1109 : Int).toNat * 3 + 1, none⟩ = some (.slice ua21_1 ((rd_T41 x5_2 t1109).f1).length uc21_1) := hcc21 1 _ rfl
            have hx21_2 : World.cell? _ ⟨go21, (t1109 : Int).toNat * 3 + 2, none⟩ = some (.slice ua21_2 ((rd_T41 x5_2 t1109).f2).length uc21_2) := hcc21 2 _ rfl
            have hf21_0 : World.frozen? _ ⟨go21, (t1109 : Int).toNat * 3, none⟩ = false := hfr21 0
            have hf21_1 : World.frozen? _ ⟨go21, (t1109 : Int).toNat * 3 + 1, none⟩ = false := hfr21 1
            have hf21_2 : World.frozen? _ ⟨go21, (t1109 : Int).toNat * 3 + 2, none⟩ = false := hfr21 2
            clear hcl21 hcc21 hfr21 hM21
            replace p21 := eq_true p21
            replace q21 := eq_true q21
            have HX31 := Aside0.mk (show Kd.N k41 41 _ w.heap.size (fun k_ => some k_ ≠ (.slice Ao24 t1106.length co24 : Value).ownBlock ∧ some k_ ≠ (.slice Ah1_ t1116.length ch1_ : Value).ownBlock ∧ some k_ ≠ (.slice Ah2_ t1119.length ch2_ : Value).ownBlock ∧ k_ ≠ gb1113) (.slice (some ⟨go21, 0, none⟩) x5_2.length co22) x5_2 from (Kd.N_mono (HO_5.out) (fun k_ hk => ⟨hk.1.1.1, ⟨hk.1.2, ⟨hk.2, hk.1.1.2⟩⟩⟩)))
            replace HX31 := Aside0.mk (show Kd.N k41 41 _ w.heap.size (fun k_ => some k_ ≠ (.slice Ao24 t1106.length co24 : Value).ownBlock ∧ k_ ≠ gb1113) (.slice (some ⟨go21, 0, none⟩) x5_2.length co22) x5_2 from Kd.N_mono HX31.out (fun k_ hk => ⟨hk.1, hk.2.2.2⟩))
            obtain ⟨ce31, hcl31, hM31, hcc31, hfr31⟩ := Kd.N_elem HX31.out z41 (t1109 : Int) (of_decide_eq_true asm) (by have h_ : (t1109 : Int) < ((x5_2.length : Int) : Int) := of_decide_eq_true asm; first | exact h_ | (have e_ := (Kd.N_reads' HO_5.out).1; omega) | simpa using h_)
            obtain ⟨ua31_1, uc31_1, ua31_2, uc31_2, rfl, ul31_1, ge31_1, ul31_2, ge31_2⟩ := k41_openF hM31
            have th1_ := (Kd.R_types (Kd.R_apart' (Kd.R_apart' (HO1118.out) (Kd.R_typed HO1108.out) (by decide)) (Kd.N_typed HO_5.out) (by decide)) BK1113.out (by decide))
            have th2_ := (Kd.R_types (Kd.R_apart' (Kd.R_apart' (HO1121.out) (Kd.R_typed HO1108.out) (by decide)) (Kd.N_typed HO_5.out) (by decide)) BK1113.out (by decide))
            have HP31 := (Kd.N_seg HX31.out (t1109 : Int) (of_decide_eq_true asm) (by have h_ : (t1109 : Int) < ((x5_2.length : Int) : Int) := of_decide_eq_true asm; first | exact h_ | (have e_ := (Kd.N_reads' HO_5.out).1; omega) | simpa using h_) (seg := [.int .i64 t1115, (.slice Ah1_ t1116.length ch1_ : Value), (.slice Ah2_ t1119.length ch2_ : Value)]) (j := 0) hcl31 hcc31 (show 3 ≤ 3 from by decide) (x' := (⟨t1115, t1116, t1119⟩ : S41)) (k41_mkF _ _ (⟨t1115, t1116, t1119⟩ : S41) (Kd.R_reads' (Kd.R_mono (ok' := (fun k_ => ((fun k_ => some k_ ≠ (.slice Ao24 t1106.length co24 : Value).ownBlock ∧ k_ ≠ gb1113)) k_ ∧ k_ ≠ go21)) th1_ (fun k_ hk => ⟨⟨hk.1.1.2, hk.2⟩, fun e_ => (hk.1.2) (by rw [e_]; rfl)⟩))).2.1 (Kd.R_F (Kd.R_mono (ok' := (fun k_ => ((fun k_ => some k_ ≠ (.slice Ao24 t1106.length co24 : Value).ownBlock ∧ k_ ≠ gb1113)) k_ ∧ k_ ≠ go21)) th1_ (fun k_ hk => ⟨⟨hk.1.1.2, hk.2⟩, fun e_ => (hk.1.2) (by rw [e_]; rfl)⟩))) (Kd.R_reads' (Kd.R_mono (ok' := (fun k_ => ((fun k_ => some k_ ≠ (.slice Ao24 t1106.length co24 : Value).ownBlock ∧ k_ ≠ gb1113)) k_ ∧ k_ ≠ go21)) th2_ (fun k_ hk => ⟨⟨hk.1.1.2, hk.2⟩, fun e_ => (hk.1.2) (by rw [e_]; rfl)⟩))).2.1 (Kd.R_F (Kd.R_mono (ok' := (fun k_ => ((fun k_ => some k_ ≠ (.slice Ao24 t1106.length co24 : Value).ownBlock ∧ k_ ≠ gb1113)) k_ ∧ k_ ≠ go21)) th2_ (fun k_ hk => ⟨⟨hk.1.1.2, hk.2⟩, fun e_ => (hk.1.2) (by rw [e_]; rfl)⟩)))) (fun _ hk => hk)).1
            clear th1_ th2_
            rw [← Ny1122.out] at HP31
            have HQ31 := Aside0.mk HP31
            clear hcl31 hcc31 hfr31 hM31 HP31
            refine hK.out _ _ ⟨(blk_cell BK1113.out 0).trans rfl, (blk_cell BK1113.out 1).trans rfl, (blk_cell BK1113.out 2).trans rfl, HS3_, HS4_, HS5_⟩ (fun hHeld => ?_)
            clear hK K
            refine norm_ (a' := ?_) ?_ ?_
            rotate_left
            ·show Act.put _ (some 47) _ = _
             simp only [Act.put, List.setIfInBounds_toArray, List.set_cons_zero, List.set_cons_succ, i64_w, i32_w]
             rfl
            refine puA (i := 11) (N := some 48) HT_.out ?_
            refine last_ (i := 12) (N := none) #[true, true, true, true, true, true, true, true, true, true, true, true, true] rfl rfl (one_of HT_.out (by kernel_rfl)) (by decide) (fun K hK => ?_)
            refine skip_ (w1 := ?_) (by rfl) rfl ?_ ?_
            rotate_left
            ·go_simp
             rfl
            refine hK.out _ _ ?_
            clear hK K
            refine done_ (done_of HT_.out (by kernel_rfl)) ?_
            try go_wp2
            go_roundg k2
            case measure => have := HJ2.out; have := HK2.out; omega
            case rel => exact ⟨(y1122), (wrap64 (x22_2 + 1)), (by first | rfl | (simp; done) | (simp [*]; done)), H', ⟨by have := HJ2.out; have := HK2.out; omega⟩, ⟨by refine nk ?_; exact Kd.N_mono HQ31.out (fun _ hk => trivial)⟩, ⟨by repeat (first | (with_reducible first | exact HB.out | apply below_alloc | apply pw_below_drewN | apply below_drew1 | refine below_set ?_ GB21.out | refine below_set ?_ GB21.out | refine below_set ?_ GB21.out | refine below_set ?_ GE1113.out) | exact HB.out)⟩⟩
           ·rw [if_neg c19] at H
            exact absurd H (by simp)
          ·rw [if_neg c18] at H
           exact absurd H (by simp)
         ·replace c17 := Bool.eq_false_iff.mpr c17
          subst c17
          rw [if_neg (show ¬ (false = true) by decide)] at H
          obtain rfl := Option.some.inj H
          have p1105 : 0 ≤ (x22_2 : Int) := of_decide_eq_true asm
          have q1105 : x22_2 < (l1.length : Int) := of_decide_eq_true asm
          obtain ⟨ad1105, e1105, hx1105_0⟩ := Kd.at_int HR1.out x22_2 p1105 q1105
          cases e1105
          replace hx1105_0 := (HB.out.cell (World.block_lt_of_cell? w _ hx1105_0)).trans hx1105_0
          replace p1105 := eq_true p1105
          replace q1105 := eq_true q1105
          obtain ⟨Ao32, co32, eo32⟩ := Kd.N_slice HO_5.out
          subst eo32
          go_wp2_with (first | ((with_reducible refine gate_callee (f := 67) rfl ?_); refine goesL_ (some 29) rfl rfl Try.func67 (by kernel_rfl) rfl #[.slice Ao32 x5_2.length co32] rfl mapd ?_; (with_reducible refine (impl_bankGaps.calls k2 _ _ x5_2 t1106 _ ?side1 ?side2 A15.out).mono ?_); (case side1 => exact cb ((Kd.N_reads' HO_5.out).2.2)); (case side2 => exact (Kd.N_reads' HO_5.out).2.1); rintro e w33 ⟨v1107, rfl, ho0, hb⟩; refine ⟨_, rfl, ?_⟩; replace HO_5 := Aside0.mk (Kd.N_elder' (nk HO_5.out) (Kd.R_base ho0) hb); have HO1108 := Aside0.mk (Kd.R_lower ho0 (below_size (bl HB.out))); replace HB := Aside0.mk (below_step (bl HB.out) hb); (try clear hb); (try clear hb2); (try clear hk); (try clear hi); (try clear ho0); obtain ⟨Ao34, co34, eo34⟩ := Kd.R_slice HO1108.out; subst eo34) | ((with_reducible refine gate_callee (f := 89) rfl ?_); refine goesL_ (some 31) rfl rfl Try.func89 (by kernel_rfl) rfl #[.slice Ao34 t1106.length co34, .int .i64 (rd l1 x22_2)] rfl mapd ?_; (with_reducible refine (impl_least.calls k2 _ _ t1106 (rd l1 x22_2) t1109 t1110 t1111 false _ ?side1 ?side2 A16.out).mono ?_); (case side1 => exact cb ((Kd.R_reads' HO1108.out).2.2)); (case side2 => exact (Kd.R_reads' HO1108.out).2.1); rintro e w35 ⟨rfl, hb⟩; refine ⟨_, rfl, ?_⟩; replace HO_5 := Aside0.mk (Kd.N_below (nk HO_5.out) hb); replace HO1108 := Aside0.mk (Kd.R_below (rk HO1108.out) hb); replace HB := Aside0.mk (below_step (bl HB.out) hb); (try clear hb); (try clear hb2); (try clear hk); (try clear hi)) | ((with_reducible refine gate_dst (N := 8) rfl ?_); refine bx (cs := #[.int .i64 0, .int .i64 0, .int .i64 0]) (t := 50) fun gb1113 hg w36 hbox hb => ?_; replace HO_5 := Aside0.mk (Kd.N_below (Kd.N_elderB (nk HO_5.out) gb1113 (Nat.le_of_eq hg.symm)) hb); replace HO1108 := Aside0.mk (Kd.R_below (Kd.R_elderB (rk HO1108.out) gb1113 (Nat.le_of_eq hg.symm)) hb); have BK1113 := Aside0.mk (hbox); have GW1113 := Aside0.mk (gs HB.out hg); have GE1113 := Aside0.mk (gs HB.out hg); replace HB := Aside0.mk (below_step (bl HB.out) hb); clear hb hbox hg; obtain ⟨hcz37_0, hcz37_1, hcz37_2, hfz37_0, hfz37_1, hfz37_2⟩ := cz3 BK1113.out))
          go_ret
          exact ⟨by first | rfl | (simp [errW_none, errW_some] <;> rfl) | (simp [*, errW_none, errW_some] <;> rfl), bl HB.out⟩
        ·rw [if_neg c14] at H
         exact absurd H (by simp)
       ·rw [if_neg c13] at H
        exact absurd H (by simp)
      ·rw [if_neg c12] at H
       have c12b0 : decide (x22_2 < (l1.length : Int)) = false := decide_eq_false c12
       clear c12
       obtain rfl := Option.some.inj H
       go_wp2
       go_ret
       exact ⟨by first | rfl | (simp [errW_none, errW_some] <;> rfl) | (simp [*, errW_none, errW_some] <;> rfl), bl HB.out⟩
end Go.Proofs.Ytbpjidekjogfeaa.A

namespace Go.Proofs.Ytbpjidekjogfeaa.A
open Go.RowKit Go.Proofs.YtbpjidekjogfeaaW.PrintWords Go.Proofs.YtbpjidekjogfeaaW.PrintLast Go.Proofs.YtbpjidekjogfeaaW.PrintMore
attribute [local go_sem] max2_int min2_int max_two min_two max_three min_three max_four min_four   
set_option linter.unusedVariables false
set_option linter.unusedSimpArgs false
def spec_l02Bank.l0 : Nat → List (S41) → Int → List Int → Int → Int → Option ((List (S41)) × Int × Int)
 | 0, _, _, _, _, _ => none
 | k + 1, x3, x4, x1000, x1001, x1002 => if x4 > 0 then ((spec_l02Column.f k x1000 x1001 x1002 (wrap64 (1 + (wrap64 (6 * (x3.length : Int)))))).bind fun bt1152 => (if x3.length < 2513169434916 then (spec_l02Bank.l0 k (x3 ++ [(⟨bt1152.1, bt1152.2.1, bt1152.2.2.1⟩ : S41)]) (wrap64 (x4 - 1)) x1000 bt1152.2.2.2.1 bt1152.2.2.2.2) else (none))) else (some (x3, x1001, x1002))
def spec_l02Bank.f (k : Nat) (s0_0 : List Int) (s0_1 : Int) (s0_2 : Int) : Option ((List (S41)) × Int × Int) := (spec_l01Below.f s0_0 s0_1 s0_2 3).bind fun bt1149 => (spec_l02Bank.l0 k (([] : List (S41))) (wrap64 (1 + bt1149.1)) s0_0 bt1149.2.1 bt1149.2.2)
set_option maxHeartbeats 8000000 in
set_option maxRecDepth 100000 in
theorem spec_l02Bank.calls (k : Nat) (g : Nat) (s0_0 : List Int) (s0_1 : Int) (s0_2 : Int) (r1 : List (S41)) (r2 : Int) (r3 : Int) (w0 w : World) (hI : IsS116 w0 w g s0_0 s0_1 s0_2) (hB : Below w0.heap.size w0 w) (h : spec_l02Bank.f k s0_0 s0_1 s0_2 = some (r1, r2, r3)) :
  Calls Try.prog 101 #[.pointer (some ⟨g, 0, none⟩)] w fun e w' => ∃ v0_ : Value, e = .returned (v0_) ∧ Kd.S k41 41 w' w.heap.size (fun _ => True) v0_ r1 ∧ IsS116 w0 w' g s0_0 r2 r3 ∧ Below w0.heap.size w0 w' ∧ KeepBut w w' g none := by
 have hu41 := Try.underlying41
 have HI0 := Aside0.mk hI
 have HK := Aside0.mk (KeepBut.refl w g none)
 have HL := Aside0.mk hB.size
 clear hI
 have HW0 := Aside0.mk hB.size
 have HB := Aside0.mk hB
 clear hB
 have H : ((spec_l01Below.f s0_0 s0_1 s0_2 3).bind fun bt1149 => (spec_l02Bank.l0 k (([] : List (S41))) (wrap64 (1 + bt1149.1)) s0_0 bt1149.2.1 bt1149.2.2)) = some (r1, r2, r3) := h
 clear h
 obtain ⟨y1146, hy1146⟩ : ∃ y_ : List (S41), y_ = (([] : List (S41))) := ⟨_, rfl⟩
 replace H : ((spec_l01Below.f s0_0 s0_1 s0_2 3).bind fun bt1149 => (spec_l02Bank.l0 k y1146 (wrap64 (1 + bt1149.1)) s0_0 bt1149.2.1 bt1149.2.2)) = some (r1, r2, r3) := by first | (rw [hy1146]; with_reducible exact H) | (have H2_ := (Option.bind_some _ _).symm.trans H; rw [hy1146]; with_reducible exact H2_) | (have H2_ := (Option.bind_some _ _).symm.trans H; with_reducible exact H2_) | with_reducible exact H | (rw [hy1146]; exact H) | exact H
 have Ny1146 := Aside0.mk hy1146
 clear hy1146
 replace H := Option.bind_eq_some_iff.mp H
 obtain ⟨⟨t1149, t1150, t1151⟩, A20, H⟩ := H
 try dsimp only at H
 have A2 := Aside0.mk A20
 clear A20
 have H' := Aside0.mk H
 clear H
 go_enter Try.func101, Try.ntmps101
 go_wp2_with (first | ((with_reducible refine gate_dst (N := 6) rfl ?_); refine Kd.S_lit k41 _ 41 ?hg (N := 6) ?hd (xs := ([] : List (S41))) (inner := []) (ok := fun _ => True) (okp := fun _ => True) ?hr ?hp (fun _ hk => hk) trivial (Below.refl _ _) (Nat.le_refl _) (by simp) ?_; (case hd => rfl); (case hg => rfl); (case hr => first | (go_simp; done) | (go_simp; rfl)); (case hp => exact (Reps.none _ _)); intro v1147 w3 ho4 hb hg_ hnew_; clear hg_ hnew_; (first | rw [← Ny1146.out] at ho4 | (simp only [Int.reduceToNat] at ho4; rw [← Ny1146.out] at ho4)); have HO1148 := Aside0.mk (Kd.S_lower ho4 (keep_size (w := w) (g := g) (row := none) (kp HK.out))); replace HI0 := Aside0.mk (IsS116.below (is116 HI0.out) hb); replace HK := Aside0.mk (KeepBut.trans (kp HK.out) (KeepBut.of_below hb g none) (.inl rfl)); replace HB := Aside0.mk (below_step (bl116 HB.out) hb); clear hb ho4) | ((with_reducible refine gate_callee (f := 78) rfl ?_); refine goesL_ (some 8) rfl rfl Try.func78 (by kernel_rfl) rfl #[.pointer (some ⟨g, 0, none⟩), .int .i64 3] rfl mapd ?_; (with_reducible refine (spec_l01Below.calls g s0_0 s0_1 s0_2 3 t1149 t1150 t1151 w0 _ ?side1 ?side2 A2.out).mono ?_); (case side1 => exact is116 HI0.out); (case side2 => exact bl116 HB.out); rintro e w5 ⟨rfl, hi, hb, hk⟩; refine ⟨_, rfl, ?_⟩; replace HO1148 := Aside0.mk (Kd.S_mono (Kd.S_keep (IsS116.apartS (show IsS116 w0 _ g s0_0 s0_1 s0_2 from is116 HI0.out) (by (with_reducible repeat (first | apply Kd.S_alloc | apply Kd.S_drewN | apply Kd.S_drew)); exact HO1148.out) (by decide)) hk (fun _ h => h.2)) (fun _ h => h.1)); replace HK := Aside0.mk (KeepBut.trans (kp HK.out) hk (.inl rfl)); replace HB := Aside0.mk (hb); replace HI0 := Aside0.mk (hi); (try clear hb); (try clear hb2); (try clear hk); (try clear hi)))
 go_loopg [3, 4] k (fun kq v3 v4 w' => ∃ (x3_1 : List (S41)) (x4_1 : Int) (x1001_1 : Int) (x1002_1 : Int), v4 = .int .i64 x4_1 ∧ Aside0 (spec_l02Bank.l0 kq x3_1 x4_1 s0_0 x1001_1 x1002_1 = some (r1, r2, r3)) ∧ Aside0 (kq ≤ k) ∧ Aside0 (Kd.S k41 41 w' w.heap.size (fun _ => True) v3 x3_1) ∧ Aside0 (IsS116 w0 w' g s0_0 x1001_1 x1002_1) ∧ Aside0 (KeepBut w w' g none) ∧ Aside0 (Below w0.heap.size w0 w'))
 case atStart => exact ⟨(y1146), (wrap64 (1 + t1149)), (t1150), (t1151), (by first | rfl | (simp; done) | (simp [*]; done)), H', ⟨Nat.le_refl _⟩, ⟨by (with_reducible repeat (first | apply Kd.S_alloc | apply Kd.S_drewN | apply Kd.S_drew)); exact HO1148.out⟩, ⟨is116 HI0.out⟩, ⟨kp HK.out⟩, ⟨bl116 HB.out⟩⟩
 case round =>
  clear H'
  try clear c1
  try clear p2
  obtain ⟨x3_1, x4_1, x1001_1, x1002_1, rfl, HA, HK1, HO_3, HI0, HK, HB⟩ := hrel
  cases gk with
  | zero => exact absurd HA.out (by simp [spec_l02Bank.l0])
  | succ k1 =>
   have H := HA.out
   clear HA
   simp only [spec_l02Bank.l0] at H
   by_cases c6 : x4_1 > 0
   ·rw [if_pos c6] at H
    have c6b0 : decide (0 < x4_1) = true := decide_eq_true c6
    clear c6
    replace H := Option.bind_eq_some_iff.mp H
    obtain ⟨⟨t1152, t1153, t1156, t1159, t1160⟩, A70, H⟩ := H
    try dsimp only at H
    have A7 := Aside0.mk A70
    clear A70
    by_cases c8 : x3_1.length < 2513169434916
    ·rw [if_pos c8] at H
     have LMc8 := Aside0.mk c8
     clear c8
     obtain ⟨y1162, hy1162⟩ : ∃ y_ : List (S41), y_ = (x3_1 ++ [(⟨t1152, t1153, t1156⟩ : S41)]) := ⟨_, rfl⟩
     replace H : (spec_l02Bank.l0 k1 y1162 (wrap64 (x4_1 - 1)) s0_0 t1159 t1160) = some (r1, r2, r3) := by first | (rw [hy1162]; with_reducible exact H) | (have H2_ := (Option.bind_some _ _).symm.trans H; rw [hy1162]; with_reducible exact H2_) | (have H2_ := (Option.bind_some _ _).symm.trans H; with_reducible exact H2_) | with_reducible exact H | (rw [hy1162]; exact H) | exact H
     have Ny1162 := Aside0.mk hy1162
     clear hy1162
     have H' := Aside0.mk H
     clear H
     obtain ⟨Ao9, co9, eo9⟩ := Kd.S_slice HO_3.out
     subst eo9
     go_wp2_with (first | ((with_reducible refine gate_callee (f := 112) rfl ?_); refine goesL_ (some 19) rfl rfl Try.func112 (by kernel_rfl) rfl #[.pointer (some ⟨g, 0, none⟩), .int .i64 (wrap64 (1 + (wrap64 (6 * (x3_1.length : Int)))))] rfl mapd ?_; (with_reducible refine (spec_l02Column.calls k1 g s0_0 x1001_1 x1002_1 (wrap64 (1 + (wrap64 (6 * (x3_1.length : Int))))) t1152 t1153 t1156 t1159 t1160 w0 _ ?side1 ?side2 A7.out).mono ?_); (case side1 => exact is116 HI0.out); (case side2 => exact bl116 HB.out); rintro e w10 ⟨v1154, v1157, rfl, ho0, ho1, hi, hb, hk⟩; refine ⟨_, rfl, ?_⟩; replace HO_3 := Aside0.mk (Kd.S_mono (Kd.S_told (Kd.S_told (Kd.S_oldK (IsS116.apartS (show IsS116 w0 _ g s0_0 x1001_1 x1002_1 from is116 HI0.out) (by (with_reducible repeat (first | apply Kd.S_alloc | apply Kd.S_drewN | apply Kd.S_drew)); exact HO_3.out) (by decide)) hk) (Kd.R_base ho0)) (Kd.R_base ho1)) (fun _ h_ => h_.1)); have HO1155 := Aside0.mk (Kd.R_lower ho0 (keep_size (w := w) (g := g) (row := none) (kp HK.out))); have HO1158 := Aside0.mk (Kd.R_lower ho1 (keep_size (w := w) (g := g) (row := none) (kp HK.out))); replace HK := Aside0.mk (KeepBut.trans (kp HK.out) hk (.inl rfl)); replace HB := Aside0.mk (hb); replace HI0 := Aside0.mk (hi); (try clear hb); (try clear hb2); (try clear hk); (try clear hi); (try clear ho0); (try clear ho1)) | ((with_reducible refine gate_dst (N := 5) rfl ?_); refine bx (cs := #[.int .i64 0, .slice none 0 0, .slice none 0 0]) (t := 41) fun gb1161 hg w11 hbox hb => ?_; replace HO_3 := Aside0.mk (Kd.S_below (Kd.S_elderB (by (with_reducible repeat (first | apply Kd.S_alloc | apply Kd.S_drewN | apply Kd.S_drew)); exact HO_3.out) gb1161 (Nat.le_of_eq hg.symm)) hb); replace HO1155 := Aside0.mk (Kd.R_below (rk HO1155.out) hb); replace HO1158 := Aside0.mk (Kd.R_below (rk HO1158.out) hb); replace HB := Aside0.mk (below_step (bl116 HB.out) hb); have BK1161 := Aside0.mk (hbox); have GW1161 := Aside0.mk ((ks HK.out hg)); have GE1161 := Aside0.mk ((Nat.le_trans HW0.out (ks HK.out hg) : w0.heap.size ≤ gb1161)); replace HK := Aside0.mk (KeepBut.trans (kp HK.out) (KeepBut.of_below hb g none) (.inl rfl)); have NB0_1161 := Aside0.mk ((by rw [hg]; exact Nat.ne_of_lt (IsS116.lt (show IsS116 w0 _ g s0_0 t1159 t1160 from is116 HI0.out)) : g ≠ gb1161)); have NB1161_0 := Aside0.mk ((by rw [hg]; exact Nat.ne_of_gt (IsS116.lt (show IsS116 w0 _ g s0_0 t1159 t1160 from is116 HI0.out)) : gb1161 ≠ g)); replace HI0 := Aside0.mk (IsS116.below (is116 HI0.out) hb); clear hb hbox hg; have hnb12 := NB1161_0.out; have hnc12 := NB0_1161.out; obtain ⟨hcz13_0, hcz13_1, hcz13_2, hfz13_0, hfz13_1, hfz13_2⟩ := cz3 BK1161.out; obtain ⟨Ao14, co14, eo14⟩ := Kd.R_slice HO1155.out; subst eo14; obtain ⟨Ao15, co15, eo15⟩ := Kd.R_slice HO1158.out; subst eo15) | ((with_reducible refine gate_store (t := 41) (p := 5) rfl ?_); refine store_event (t := 41) (p := 5) (v := ?vo_w16) (w1 := (((w11.setCell ⟨gb1161, 0, none⟩ (.int .i64 t1152)).setCell ⟨gb1161, 1, none⟩ (.slice Ao14 t1153.length co14)).setCell ⟨gb1161, 2, none⟩ (.slice Ao15 t1156.length co15))) ?hg ?ho ?hn ?hr ?_; (case ho => rfl); (case hg => rfl); (case hn => rfl); (case hr => first | (go_simp; done) | (go_simp; rfl)); intro w16 hw; have n0_ : Aside0 (Kd.S k41 41 w16 w.heap.size (fun k_ => some k_ ≠ (.slice Ao14 t1153.length co14 : Value).ownBlock ∧ some k_ ≠ (.slice Ao15 t1156.length co15 : Value).ownBlock ∧ k_ ≠ gb1161) (.slice Ao9 x3_1.length co9) x3_1) := ⟨(by rw [hw]; exact (by (with_reducible repeat (first | apply Kd.S_alloc | apply Kd.S_drewN | apply Kd.S_drew)); exact Kd.S_mono (Kd.S_far (p := ⟨gb1161, 2, none⟩) (Kd.S_far (p := ⟨gb1161, 1, none⟩) (Kd.S_far (p := ⟨gb1161, 0, none⟩) (Kd.S_mono HO_3.out (fun k_ hk => (⟨hk, hk.2⟩ : _ ∧ k_ ≠ gb1161))) (fun _ hk => hk.2) (.int .i64 t1152)) (fun _ hk => hk.2) (.slice Ao14 t1153.length co14)) (fun _ hk => hk.2) (.slice Ao15 t1156.length co15)) (fun _ hk => ⟨hk.1.1.1.2, ⟨hk.1.1.2, hk.1.2⟩⟩)))⟩; have n1_ : Aside0 (Kd.R (Kd.int .i64) 3 w16 w.heap.size (fun _ => True) (.slice Ao14 t1153.length co14) t1153) := ⟨(by rw [hw]; exact (by refine rk ?_; exact Kd.R_mono (Kd.R_far (p := ⟨gb1161, 2, none⟩) (Kd.R_far (p := ⟨gb1161, 1, none⟩) (Kd.R_far (p := ⟨gb1161, 0, none⟩) (Kd.R_types HO1155.out BK1161.out (by decide)) (fun _ hk => hk.2) (.int .i64 t1152)) (fun _ hk => hk.2) (.slice Ao14 t1153.length co14)) (fun _ hk => hk.2) (.slice Ao15 t1156.length co15)) (fun _ hk => trivial)))⟩; have n2_ : Aside0 (Kd.R k98 98 w16 w.heap.size (fun _ => True) (.slice Ao15 t1156.length co15) t1156) := ⟨(by rw [hw]; exact (by refine rk ?_; exact Kd.R_mono (Kd.R_far (p := ⟨gb1161, 2, none⟩) (Kd.R_far (p := ⟨gb1161, 1, none⟩) (Kd.R_far (p := ⟨gb1161, 0, none⟩) (Kd.R_types HO1158.out BK1161.out (by decide)) (fun _ hk => hk.2) (.int .i64 t1152)) (fun _ hk => hk.2) (.slice Ao14 t1153.length co14)) (fun _ hk => hk.2) (.slice Ao15 t1156.length co15)) (fun _ hk => trivial)))⟩; have n3_ : Aside0 (w16.heap[gb1161]? = some (.cells #[.int .i64 t1152, .slice Ao14 t1153.length co14, .slice Ao15 t1156.length co15] 41 (0, 0))) := ⟨(by rw [hw]; exact (by refine bk ?_; refine blk_put (cs := #[.int .i64 t1152, .slice Ao14 t1153.length co14, .slice none 0 0]) ?_ 2 _ rfl; refine bk ?_; refine blk_put (cs := #[.int .i64 t1152, .slice none 0 0, .slice none 0 0]) ?_ 1 _ rfl; refine bk ?_; refine blk_put (cs := #[.int .i64 0, .slice none 0 0, .slice none 0 0]) ?_ 0 _ rfl; refine bk ?_; exact BK1161.out))⟩; have n4_ : Aside0 (IsS116 w0 w16 g s0_0 t1159 t1160) := ⟨(by rw [hw]; exact (is116 HI0.out))⟩; have n5_ : Aside0 (KeepBut w w16 g none) := ⟨(by rw [hw]; exact (kp HK.out))⟩; have n6_ : Aside0 (Below w0.heap.size w0 w16) := ⟨(by rw [hw]; exact (bl116 HB.out))⟩; clear hw; clear HO_3; clear HO1155; clear HO1158; clear BK1161; clear HI0; clear HK; clear HB; have HO_3 := n0_; have HO1155 := n1_; have HO1158 := n2_; have BK1161 := n3_; have HI0 := n4_; have HK := n5_; have HB := n6_; clear n0_ n1_ n2_ n3_ n4_ n5_ n6_; obtain ⟨hcz17_0, hcz17_1, hcz17_2, hfz17_0, hfz17_1, hfz17_2⟩ := cz3 BK1161.out) | ((with_reducible refine gate_builtin (b := .append) (xs := #[.tmp 20, .tmp 22]) rfl ?_); at_builtin; refine Kd.S_append k41 w.heap.size rfl (.tmp 20) (.tmp 22) 26 41 (.agg #[(.int .i64 0), (.slice none 0 0), (.slice none 0 0)]) 56 rfl Try.underlying26 info41 rfl (by decide) (by omega) (.slice Ao9 x3_1.length co9) x3_1 (⟨t1152, t1153, t1156⟩ : S41) [.int .i64 t1152, .slice Ao14 t1153.length co14, .slice Ao15 t1156.length co15] (fun k_ => k_ ≠ gb1161) (fun k_ => some k_ = (.slice Ao14 t1153.length co14 : Value).ownBlock ∨ some k_ = (.slice Ao15 t1156.length co15 : Value).ownBlock) rfl rfl ?aP (fun k_ hk_ => hk_.elim (fun h_ => ((Kd.R_mono (ok' := fun k_ => ((fun k_ => k_ ≠ gb1161)) k_ ∧ some k_ ≠ (.slice Ao9 x3_1.length co9 : Value).ownBlock) (Kd.R_types (Kd.R_apart' (HO1155.out) (Kd.S_typed HO_3.out) (by decide)) BK1161.out (by decide)) (fun k_ hk => ⟨hk.2, hk.1.2⟩))).1 k_ h_.symm) (fun h_ => ((Kd.R_mono (ok' := fun k_ => ((fun k_ => k_ ≠ gb1161)) k_ ∧ some k_ ≠ (.slice Ao9 x3_1.length co9 : Value).ownBlock) (Kd.R_types (Kd.R_apart' (HO1158.out) (Kd.S_typed HO_3.out) (by decide)) BK1161.out (by decide)) (fun k_ hk => ⟨hk.2, hk.1.2⟩))).1 k_ h_.symm)) ?aF ?aO (Below.refl _ _) ?aS ?aL ?_; (case aP => exact k41_mkM _ _ _ (⟨t1152, t1153, t1156⟩ : S41) (Kd.R_mono (Kd.R_tight rfl (Kd.R_mono (ok' := fun k_ => ((fun k_ => k_ ≠ gb1161)) k_ ∧ some k_ ≠ (.slice Ao9 x3_1.length co9 : Value).ownBlock) (Kd.R_types (Kd.R_apart' (HO1155.out) (Kd.S_typed HO_3.out) (by decide)) BK1161.out (by decide)) (fun k_ hk => ⟨hk.2, hk.1.2⟩))) (fun _ h_ => Or.inl h_)) (Kd.R_mono (Kd.R_tight rfl (Kd.R_mono (ok' := fun k_ => ((fun k_ => k_ ≠ gb1161)) k_ ∧ some k_ ≠ (.slice Ao9 x3_1.length co9 : Value).ownBlock) (Kd.R_types (Kd.R_apart' (HO1158.out) (Kd.S_typed HO_3.out) (by decide)) BK1161.out (by decide)) (fun k_ hk => ⟨hk.2, hk.1.2⟩))) (fun _ h_ => Or.inr (h_)))); (case aF => exact (fun k_ hk => Kd.freshB (g := gb1161) (o := .cells #[.int .i64 t1152, .slice Ao14 t1153.length co14, .slice Ao15 t1156.length co15] 41 (0, 0)) (bk BK1161.out) k_ hk)); (case aO => exact (by (with_reducible repeat (first | apply Kd.S_alloc | apply Kd.S_drewN | apply Kd.S_drew)); exact Kd.S_mono HO_3.out (fun k_ hk => ⟨hk.2.2, fun e_ => e_.elim (fun h_ => hk.1 h_) (fun h_ => hk.2.1 h_)⟩))); (case aS => exact (keep_size (w := w) (g := g) (row := none) (kp HK.out))); (case aL => have := LMc8.out; omega); intro v1163 w18 ho hb hg hat; rw [← Ny1162.out] at ho; replace HI0 := Aside0.mk (IsS116.grown (is116 HI0.out) hg (IsS116.own_neS HI0.out HO_3.out (by decide))); replace BK1161 := Aside0.mk (blk_grown (g := gb1161) (o := .cells #[.int .i64 t1152, .slice Ao14 t1153.length co14, .slice Ao15 t1156.length co15] 41 (0, 0)) (bk BK1161.out) hg (Kd.S_away HO_3.out (fun _ hk => hk.2.2))); replace HB := Aside0.mk (below_weaken (bl116 HB.out) HL.out hb); replace HK := Aside0.mk (KeepBut.trans (kp HK.out) (KeepBut.of_grown hg g) (Kd.S_base2 HO_3.out)); have HO1164 := Aside0.mk (ho); clear HO_3 HO1155 HO1158; clear ho hb hg hat))
     go_roundg k1
     case measure => have := HK1.out; omega
     case rel => exact ⟨(y1162), (wrap64 (x4_1 - 1)), (t1159), (t1160), (by first | rfl | (simp; done) | (simp [*]; done)), H', ⟨by have := HK1.out; omega⟩, ⟨by (with_reducible repeat (first | apply Kd.S_alloc | apply Kd.S_drewN | apply Kd.S_drew)); exact Kd.S_mono HO1164.out (fun _ hk => trivial)⟩, ⟨is116 HI0.out⟩, ⟨kp HK.out⟩, ⟨bl116 HB.out⟩⟩
    ·rw [if_neg c8] at H
     exact absurd H (by simp)
   ·rw [if_neg c6] at H
    have c6b0 : decide (0 < x4_1) = false := decide_eq_false c6
    clear c6
    simp only [Option.some.injEq, Prod.mk.injEq] at H
    obtain ⟨rfl, rfl, rfl⟩ := H
    go_wp2
    go_ret
    exact ⟨_, by first | rfl | (simp [errW_none, errW_some] <;> rfl) | (simp [*, errW_none, errW_some] <;> rfl), by (with_reducible repeat (first | apply Kd.S_alloc | apply Kd.S_drewN | apply Kd.S_drew)); exact HO_3.out, is116 HI0.out, bl116 HB.out, kp HK.out⟩
def spec_DrawBank.f (k : Nat) (l0 : List Int) : Option ((List (S41))) := (spec_l01New.f k l0).bind fun bt1165 => ((spec_l02Bank.f k bt1165.1 bt1165.2.1 bt1165.2.2).bind fun bt1169 => (some bt1169.1))
set_option maxHeartbeats 8000000 in
set_option maxRecDepth 100000 in
theorem spec_DrawBank.calls (k : Nat) (A0 : Option Addr) (c0 : Nat) (l0 : List Int) (r : List (S41)) (w : World) (hr0 : Kd.C (Kd.int .u8) w A0 l0.length l0) (hc0 : l0.length ≤ c0) (h : spec_DrawBank.f k l0 = some r) :
  Calls Try.prog 48 #[.slice A0 l0.length c0] w fun e w' => ∃ v0_ : Value, e = .returned (v0_) ∧ Kd.S k41 41 w' w.heap.size (fun _ => True) v0_ r ∧ Below w.heap.size w w' := by
 have HR0 := Aside0.mk hr0
 have HC0 := Aside0.mk hc0
 clear hr0 hc0
 have HB := Aside0.mk (Below.refl w.heap.size w)
 have H : ((spec_l01New.f k l0).bind fun bt1165 => ((spec_l02Bank.f k bt1165.1 bt1165.2.1 bt1165.2.2).bind fun bt1169 => (some bt1169.1))) = some r := h
 clear h
 replace H := Option.bind_eq_some_iff.mp H
 obtain ⟨⟨t1165, t1166, t1167⟩, A20, H⟩ := H
 try dsimp only at H
 have A2 := Aside0.mk A20
 clear A20
 replace H := Option.bind_eq_some_iff.mp H
 obtain ⟨⟨t1169, t1172, t1173⟩, A30, H⟩ := H
 try dsimp only at H
 have A3 := Aside0.mk A30
 clear A30
 obtain rfl := Option.some.inj H
 go_enter Try.func48, Try.ntmps48
 go_wp2_with (first | ((with_reducible refine gate_callee (f := 75) rfl ?_); refine goesL_ (some 4) rfl rfl Try.func75 (by kernel_rfl) rfl #[.slice A0 l0.length c0] rfl mapd ?_; (with_reducible refine (spec_l01New.calls k _ _ l0 t1165 t1166 t1167 w _ ?side1 ?side2 ?side3 A2.out).mono ?_); (case side1 => repeat (first | (with_reducible first | exact HB.out | apply below_alloc | apply pw_below_drewN | apply below_drew1) | exact HB.out)); (case side2 => exact HR0.out); (case side3 => exact HC0.out); rintro e w4 ⟨g1168, rfl, hi, hb, hb2⟩; refine ⟨_, rfl, ?_⟩; replace HB := Aside0.mk (hb); have HI1168 := Aside0.mk (hi); (try clear hb); (try clear hb2); (try clear hk); (try clear hi)) | ((with_reducible refine gate_callee (f := 101) rfl ?_); refine goesL_ (some 5) rfl rfl Try.func101 (by kernel_rfl) rfl #[.pointer (some ⟨g1168, 0, none⟩)] rfl mapd ?_; (with_reducible refine (spec_l02Bank.calls k g1168 t1165 t1166 t1167 t1169 t1172 t1173 w _ ?side1 ?side2 A3.out).mono ?_); (case side1 => exact is116 HI1168.out); (case side2 => exact bl116 HB.out); rintro e w5 ⟨v1170, rfl, ho0, hi, hb, hk⟩; refine ⟨_, rfl, ?_⟩; have HO1171 := Aside0.mk (Kd.S_lower ho0 (below_size (bl116 HB.out))); replace HB := Aside0.mk (hb); replace HI1168 := Aside0.mk (hi); (try clear hb); (try clear hb2); (try clear hk); (try clear hi); (try clear ho0)))
 go_ret
 exact ⟨_, by first | rfl | (simp [errW_none, errW_some] <;> rfl) | (simp [*, errW_none, errW_some] <;> rfl), by (with_reducible repeat (first | apply Kd.S_alloc | apply Kd.S_drewN | apply Kd.S_drew)); exact HO1171.out, bl116 HB.out⟩
def spec_DrawPlaces.l0 : Nat → List Int → Int → List Int → Int → Int → Option (List Int)
 | 0, _, _, _, _, _ => none
 | k + 1, x4, x5, x1178000, x1178001, x1178002 => if x5 < 12 then ((spec_l01Below.f x1178000 x1178001 x1178002 10000).bind fun bt1181 => (if x4.length < 17592186044416 then (spec_DrawPlaces.l0 k (x4 ++ [bt1181.1]) (wrap64 (x5 + 1)) x1178000 bt1181.2.1 bt1181.2.2) else (none))) else (some x4)
def spec_DrawPlaces.f (k : Nat) (l0 : List Int) : Option (List Int) := (spec_l01New.f k l0).bind fun bt1174 => (spec_DrawPlaces.l0 k (([] : List Int)) 0 bt1174.1 bt1174.2.1 bt1174.2.2)
theorem spec_DrawPlaces.mono_l : ∀ k, (∀ y0 y1 y2 y3 y4, LeO (spec_DrawPlaces.l0 k y0 y1 y2 y3 y4) (spec_DrawPlaces.l0 (k + 1) y0 y1 y2 y3 y4))
 | 0 => fun _ _ _ _ _ r h => by simp [spec_DrawPlaces.l0] at h
 | k + 1 => by
  have ih0 := spec_DrawPlaces.mono_l k
  ·intro y0 y1 y2 y3 y4
   unfold spec_DrawPlaces.l0
   repeat' first
   | (with_reducible exact ih0 _ _ _ _ _)
   | (with_reducible exact spec_l01New.mono _ _)
   | (with_reducible exact LeO.refl _)
   | (with_reducible exact LeO.none _)
   | (with_reducible refine LeO.ite ?_ ?_)
   | (with_reducible refine LeO.bind ?_ (fun _ => ?_))
   | exact ih0 _ _ _ _ _
   | exact spec_l01New.mono _ _
   | exact LeO.none _
   | refine LeO.ite ?_ ?_
   | refine LeO.bind ?_ (fun _ => ?_)
theorem spec_DrawPlaces.mono : ∀ a0 k, LeO (spec_DrawPlaces.f k a0) (spec_DrawPlaces.f (k + 1) a0) := by
 intro a0 k
 have ih0 := spec_DrawPlaces.mono_l k
 unfold spec_DrawPlaces.f
 repeat' first
   | (with_reducible exact ih0 _ _ _ _ _)
   | (with_reducible exact spec_l01New.mono _ _)
   | (with_reducible exact LeO.refl _)
   | (with_reducible exact LeO.none _)
   | (with_reducible refine LeO.ite ?_ ?_)
   | (with_reducible refine LeO.bind ?_ (fun _ => ?_))
   | exact ih0 _ _ _ _ _
   | exact spec_l01New.mono _ _
   | exact LeO.none _
   | refine LeO.ite ?_ ?_
   | refine LeO.bind ?_ (fun _ => ?_)
set_option maxHeartbeats 8000000 in
set_option maxRecDepth 100000 in
theorem spec_DrawPlaces.calls (k : Nat) (A0 : Option Addr) (c0 : Nat) (l0 : List Int) (r : List Int) (w : World) (hr0 : Kd.C (Kd.int .u8) w A0 l0.length l0) (hc0 : l0.length ≤ c0) (h : spec_DrawPlaces.f k l0 = some r) :
  Calls Try.prog 49 #[.slice A0 l0.length c0] w fun e w' => ∃ v0_ : Value, e = .returned (v0_) ∧ Kd.R (Kd.int .i64) 3 w' w.heap.size (fun _ => True) v0_ r ∧ Below w.heap.size w w' := by
 have HR0 := Aside0.mk hr0
 have HC0 := Aside0.mk hc0
 clear hr0 hc0
 have HB := Aside0.mk (Below.refl w.heap.size w)
 have H : ((spec_l01New.f k l0).bind fun bt1174 => (spec_DrawPlaces.l0 k (([] : List Int)) 0 bt1174.1 bt1174.2.1 bt1174.2.2)) = some r := h
 clear h
 replace H := Option.bind_eq_some_iff.mp H
 obtain ⟨⟨t1174, t1175, t1176⟩, A20, H⟩ := H
 try dsimp only at H
 have A2 := Aside0.mk A20
 clear A20
 obtain ⟨y1178, hy1178⟩ : ∃ y_ : List Int, y_ = (([] : List Int)) := ⟨_, rfl⟩
 replace H : (spec_DrawPlaces.l0 k y1178 0 t1174 t1175 t1176) = some r := by first | (rw [hy1178]; with_reducible exact H) | (have H2_ := (Option.bind_some _ _).symm.trans H; rw [hy1178]; with_reducible exact H2_) | (have H2_ := (Option.bind_some _ _).symm.trans H; with_reducible exact H2_) | with_reducible exact H | (rw [hy1178]; exact H) | exact H
 have Ny1178 := Aside0.mk hy1178
 clear hy1178
 have H' := Aside0.mk H
 clear H
 go_enter Try.func49, Try.ntmps49
 go_wp2_with (first | ((with_reducible refine gate_callee (f := 75) rfl ?_); refine goesL_ (some 7) rfl rfl Try.func75 (by kernel_rfl) rfl #[.slice A0 l0.length c0] rfl mapd ?_; (with_reducible refine (spec_l01New.calls k _ _ l0 t1174 t1175 t1176 w _ ?side1 ?side2 ?side3 A2.out).mono ?_); (case side1 => repeat (first | (with_reducible first | exact HB.out | apply below_alloc | apply pw_below_drewN | apply below_drew1) | exact HB.out)); (case side2 => exact HR0.out); (case side3 => exact HC0.out); rintro e w3 ⟨g1177, rfl, hi, hb, hb2⟩; refine ⟨_, rfl, ?_⟩; replace HB := Aside0.mk (hb); have HI1177 := Aside0.mk (hi); (try clear hb); (try clear hb2); (try clear hk); (try clear hi)) | ((with_reducible refine gate_dst (N := 8) rfl ?_); refine Kd.R_lit (Kd.int .i64) _ 3 ?hg (N := 8) ?hd (xs := ([] : List Int)) (inner := []) (ok := fun _ => True) (okp := fun _ => True) ?hr ?hp (fun _ hk => hk) trivial (Below.refl _ _) (Nat.le_refl _) (by simp) ?_; (case hd => rfl); (case hg => rfl); (case hr => first | (go_simp; done) | (go_simp; rfl)); (case hp => exact (Reps.none _ _)); intro v1179 w4 ho5 hb hg_ hnew_; clear hg_ hnew_; (first | rw [← Ny1178.out] at ho5 | (simp only [Int.reduceToNat] at ho5; rw [← Ny1178.out] at ho5)); have HO1180 := Aside0.mk (Kd.R_lower ho5 (below_size (bl116 HB.out))); replace HI1177 := Aside0.mk (IsS116.below (is116 HI1177.out) hb); replace HB := Aside0.mk (below_step (bl116 HB.out) hb); clear hb ho5))
 go_loopg [4, 5] k (fun kq v4 v5 w' => ∃ (x4_1 : List Int) (x5_1 : Int) (x1178001_1 : Int) (x1178002_1 : Int), v5 = .int .i64 x5_1 ∧ Aside0 (spec_DrawPlaces.l0 kq x4_1 x5_1 t1174 x1178001_1 x1178002_1 = some r) ∧ Aside0 (kq ≤ k) ∧ Aside0 (Kd.R (Kd.int .i64) 3 w' w.heap.size (fun _ => True) v4 x4_1) ∧ Aside0 (IsS116 w w' g1177 t1174 x1178001_1 x1178002_1) ∧ Aside0 (Below w.heap.size w w'))
 case atStart => exact ⟨(y1178), (0), (t1175), (t1176), (by first | rfl | (simp; done) | (simp [*]; done)), H', ⟨Nat.le_refl _⟩, ⟨rk HO1180.out⟩, ⟨is116 HI1177.out⟩, ⟨bl116 HB.out⟩⟩
 case round =>
  clear H'
  try clear p2
  try clear c4
  obtain ⟨x4_1, x5_1, x1178001_1, x1178002_1, rfl, HA, HK1, HO_4, HI1177, HB⟩ := hrel
  cases gk with
  | zero => exact absurd HA.out (by simp [spec_DrawPlaces.l0])
  | succ k1 =>
   have H := HA.out
   clear HA
   simp only [spec_DrawPlaces.l0] at H
   by_cases c6 : x5_1 < 12
   ·rw [if_pos c6] at H
    have c6b0 : decide (x5_1 < 12) = true := decide_eq_true c6
    clear c6
    replace H := Option.bind_eq_some_iff.mp H
    obtain ⟨⟨t1181, t1182, t1183⟩, A70, H⟩ := H
    try dsimp only at H
    have A7 := Aside0.mk A70
    clear A70
    by_cases c8 : x4_1.length < 17592186044416
    ·rw [if_pos c8] at H
     have LMc8 := Aside0.mk c8
     clear c8
     obtain ⟨y1184, hy1184⟩ : ∃ y_ : List Int, y_ = (x4_1 ++ [t1181]) := ⟨_, rfl⟩
     replace H : (spec_DrawPlaces.l0 k1 y1184 (wrap64 (x5_1 + 1)) t1174 t1182 t1183) = some r := by first | (rw [hy1184]; with_reducible exact H) | (have H2_ := (Option.bind_some _ _).symm.trans H; rw [hy1184]; with_reducible exact H2_) | (have H2_ := (Option.bind_some _ _).symm.trans H; with_reducible exact H2_) | with_reducible exact H | (rw [hy1184]; exact H) | exact H
     have Ny1184 := Aside0.mk hy1184
     clear hy1184
     have H' := Aside0.mk H
     clear H
     go_wp2_with (first | ((with_reducible refine gate_callee (f := 78) rfl ?_); refine goesL_ (some 15) rfl rfl Try.func78 (by kernel_rfl) rfl #[.pointer (some ⟨g1177, 0, none⟩), .int .i64 10000] rfl mapd ?_; (with_reducible refine (spec_l01Below.calls g1177 t1174 x1178001_1 x1178002_1 10000 t1181 t1182 t1183 w _ ?side1 ?side2 A7.out).mono ?_); (case side1 => exact is116 HI1177.out); (case side2 => exact bl116 HB.out); rintro e w9 ⟨rfl, hi, hb, hk⟩; refine ⟨_, rfl, ?_⟩; replace HO_4 := Aside0.mk (Kd.R_mono (Kd.R_keep (IsS116.apart (show IsS116 w _ g1177 t1174 x1178001_1 x1178002_1 from is116 HI1177.out) (rk HO_4.out) (by decide)) hk (fun _ h => h.2)) (fun _ h => h.1)); replace HB := Aside0.mk (hb); replace HI1177 := Aside0.mk (hi); (try clear hb); (try clear hb2); (try clear hk); (try clear hi)) | ((with_reducible refine gate_builtin (b := .append) (xs := #[.tmp 13, .tmp 16]) rfl ?_); at_builtin; refine Kd.R_append (Kd.int .i64) (w0 := w) w.heap.size rfl (.tmp 13) (.tmp 16) 38 3 (.int .i64 0) 8 rfl Try.underlying38 info3 rfl (by decide) (by omega) u4 x4_1 t1181 [.int .i64 t1181] (fun _ => True) (fun _ => False) rfl rfl ?aP (fun _ hk => hk.elim) ?aF ?aO ?aB ?aS ?aL ?_; (case aP => exact rfl); (case aB => exact (bl116 HB.out)); (case aF => exact (fun _ _ => trivial)); (case aO => exact (rk HO_4.out)); (case aS => exact (below_size (bl116 HB.out))); (case aL => have := LMc8.out; omega); intro v1185 w10 ho hb hg hat; rw [← Ny1184.out] at ho; replace HI1177 := Aside0.mk (IsS116.grown (is116 HI1177.out) hg (IsS116.own_ne HI1177.out HO_4.out (by decide))); replace HB := Aside0.mk (hb); have HO1186 := Aside0.mk (ho); clear HO_4; clear ho hb hg hat))
     go_roundg k1
     case measure => have := HK1.out; omega
     case rel => exact ⟨(y1184), (wrap64 (x5_1 + 1)), (t1182), (t1183), (by first | rfl | (simp; done) | (simp [*]; done)), H', ⟨by have := HK1.out; omega⟩, ⟨rk HO1186.out⟩, ⟨is116 HI1177.out⟩, ⟨bl116 HB.out⟩⟩
    ·rw [if_neg c8] at H
     exact absurd H (by simp)
   ·rw [if_neg c6] at H
    have c6b0 : decide (x5_1 < 12) = false := decide_eq_false c6
    clear c6
    obtain rfl := Option.some.inj H
    go_wp2
    go_ret
    exact ⟨_, by first | rfl | (simp [errW_none, errW_some] <;> rfl) | (simp [*, errW_none, errW_some] <;> rfl), rk HO_4.out, bl116 HB.out⟩
def impl_MostOf.l0 : Nat → Int → Int → List (S50) → Int → Int → Option (Int)
 | 0, _, _, _, _, _ => none
 | k + 1, x1, x5, x11, x12, x13 => if x13 < x12 then (if 0 ≤ x13 then (if x13 < (x11.length : Int) then (if x1 = 0 then (none) else (impl_MostOf.l0 k x1 (wrap64 (x5 + (wrap64 (Int.tdiv ((rd_T50 x11 x13).f2) x1)))) x11 x12 (wrap64 (x13 + 1)))) else (none)) else (none)) else (some x5)
def impl_MostOf.f (k : Nat) (l0 : List (S41)) (a1 : Int) : Option (Int) := if a1 ≥ 1 then ((impl_BankGaps.f k l0).bind fun t1187 => (impl_MostOf.l0 k a1 0 t1187 (t1187.length : Int) 0)) else (some 0)
set_option maxHeartbeats 8000000 in
set_option maxRecDepth 100000 in
theorem impl_MostOf.calls (k : Nat) (A0 : Option Addr) (c0 : Nat) (l0 : List (S41)) (a1 : Int) (r : Int) (w : World) (hr0 : Kd.C k41 w A0 l0.length l0) (hc0 : l0.length ≤ c0) (h : impl_MostOf.f k l0 a1 = some r) :
  Calls Try.prog 50 #[.slice A0 l0.length c0, .int .i64 a1] w fun e w' => e = .returned (.int .i64 r) ∧ Below w.heap.size w w' := by
 have hu50 := Try.underlying50
 have HR0 := Aside0.mk hr0
 have HC0 := Aside0.mk hc0
 clear hr0 hc0
 have HB := Aside0.mk (Below.refl w.heap.size w)
 have H : (if a1 ≥ 1 then ((impl_BankGaps.f k l0).bind fun t1187 => (impl_MostOf.l0 k a1 0 t1187 (t1187.length : Int) 0)) else (some 0)) = some r := h
 clear h
 by_cases c3 : a1 ≥ 1
 ·rw [if_pos c3] at H
  have c3b0 : decide (1 ≤ a1) = true := decide_eq_true c3
  clear c3
  replace H := Option.bind_eq_some_iff.mp H
  obtain ⟨t1187, A40, H⟩ := H
  try dsimp only at H
  have A4 := Aside0.mk A40
  clear A40
  have H' := Aside0.mk H
  clear H
  go_enter Try.func50, Try.ntmps50
  go_wp2_with (first | ((with_reducible refine gate_callee (f := 18) rfl ?_); refine goesL_ (some 11) rfl rfl Try.func18 (by kernel_rfl) rfl #[.slice A0 l0.length c0] rfl mapd ?_; (with_reducible refine (impl_BankGaps.calls k _ _ l0 t1187 _ ?side1 ?side2 A4.out).mono ?_); (case side1 => repeat (first | exact HR0.out | (with_reducible refine Kd.C_alloc ?_ _) | (with_reducible refine Kd.C_drewN ?_ _) | (with_reducible refine Kd.C_drew ?_))); (case side2 => exact HC0.out); rintro e w5 ⟨v1188, rfl, ho0, hb⟩; refine ⟨_, rfl, ?_⟩; have HO1189 := Aside0.mk (Kd.R_lower ho0 (below_size (bl HB.out))); replace HB := Aside0.mk (below_step (bl HB.out) hb); (try clear hb); (try clear hb2); (try clear hk); (try clear hi); (try clear ho0); obtain ⟨Ao6, co6, eo6⟩ := Kd.R_slice HO1189.out; subst eo6))
  go_loopg [5, 13] k (fun kq v5 v13 w' => ∃ (x5_1 : Int) (x13_1 : Int), v5 = .int .i64 x5_1 ∧ v13 = .int .i64 x13_1 ∧ Aside0 (impl_MostOf.l0 kq a1 x5_1 t1187 (t1187.length : Int) x13_1 = some r) ∧ Aside0 (kq ≤ k) ∧ Aside0 (Kd.R k50 50 w' w.heap.size (fun _ => True) (.slice Ao6 t1187.length co6) t1187) ∧ Aside0 (Below w.heap.size w w'))
  case atStart => exact ⟨(0), (0), (by first | rfl | (simp; done) | (simp [*]; done)), (by first | rfl | (simp; done) | (simp [*]; done)), H', ⟨Nat.le_refl _⟩, ⟨rk HO1189.out⟩, ⟨bl HB.out⟩⟩
  case round =>
   clear H'
   try clear c1
   try clear p2
   try clear c3
   try clear c3b0
   try clear c5
   obtain ⟨x5_1, x13_1, rfl, rfl, HA, HK1, HO_11, HB⟩ := hrel
   cases gk with
   | zero => exact absurd HA.out (by simp [impl_MostOf.l0])
   | succ k1 =>
    have H := HA.out
    clear HA
    simp only [impl_MostOf.l0] at H
    by_cases c7 : x13_1 < (t1187.length : Int)
    ·rw [if_pos c7] at H
     have c7b0 : decide (x13_1 < (t1187.length : Int)) = true := decide_eq_true c7
     clear c7
     by_cases c8 : 0 ≤ x13_1
     ·rw [if_pos c8] at H
      have c8b0 : decide (0 ≤ x13_1) = true := decide_eq_true c8
      clear c8
      by_cases c9 : x13_1 < (t1187.length : Int)
      ·rw [if_pos c9] at H
       have c9b0 : decide (x13_1 < (t1187.length : Int)) = true := decide_eq_true c9
       clear c9
       by_cases c10 : a1 = 0
       ·rw [if_pos c10] at H
        exact absurd H (by simp)
       ·rw [if_neg c10] at H
        have c10b0 : (a1 == 0) = false := beq_eq_false_iff_ne.mpr c10
        have c10b1 : (a1 != 0) = true := bne_iff_ne.mpr c10
        have H' := Aside0.mk H
        clear H
        have p1190 : 0 ≤ (x13_1 : Int) := of_decide_eq_true asm
        have q1190 : x13_1 < (t1187.length : Int) := of_decide_eq_true asm
        obtain ⟨ad1190, e1190, hx1190_0, hx1190_1, hx1190_2⟩ := at_T50 (Kd.R_reads' HO_11.out).2.2 x13_1 p1190 q1190
        cases e1190
        replace p1190 := eq_true p1190
        replace q1190 := eq_true q1190
        go_wp2_with (first | ((with_reducible refine gate_dst (N := 7) rfl ?_); refine bx (cs := #[.int .i64 0, .int .i64 0, .int .i64 0]) (t := 50) fun gb1191 hg w11 hbox hb => ?_; replace HO_11 := Aside0.mk (Kd.R_below (Kd.R_elderB (rk HO_11.out) gb1191 (Nat.le_of_eq hg.symm)) hb); have BK1191 := Aside0.mk (hbox); have GW1191 := Aside0.mk (gs HB.out hg); have GE1191 := Aside0.mk (gs HB.out hg); replace HB := Aside0.mk (below_step (bl HB.out) hb); clear hb hbox hg; obtain ⟨hcz12_0, hcz12_1, hcz12_2, hfz12_0, hfz12_1, hfz12_2⟩ := cz3 BK1191.out))
        go_roundg k1
        case measure => have := HK1.out; omega
        case rel => exact ⟨(wrap64 (x5_1 + (wrap64 (Int.tdiv ((rd_T50 t1187 x13_1).f2) a1)))), (wrap64 (x13_1 + 1)), (by first | rfl | (simp; done) | (simp [*]; done)), (by first | rfl | (simp; done) | (simp [*]; done)), H', ⟨by have := HK1.out; omega⟩, ⟨by refine rk ?_; exact Kd.R_mono (Kd.R_far (p := ⟨gb1191, 2, none⟩) (Kd.R_far (p := ⟨gb1191, 1, none⟩) (Kd.R_far (p := ⟨gb1191, 0, none⟩) (Kd.R_mono HO_11.out (fun k_ hk => (⟨hk, hk.2⟩ : _ ∧ k_ ≠ gb1191))) (fun _ hk => hk.2) (.int .i64 ((rd_T50 t1187 x13_1).f0))) (fun _ hk => hk.2) (.int .i64 ((rd_T50 t1187 x13_1).f1))) (fun _ hk => hk.2) (.int .i64 ((rd_T50 t1187 x13_1).f2))) (fun _ hk => trivial)⟩, ⟨bl HB.out⟩⟩
      ·rw [if_neg c9] at H
       exact absurd H (by simp)
     ·rw [if_neg c8] at H
      exact absurd H (by simp)
    ·rw [if_neg c7] at H
     have c7b0 : decide (x13_1 < (t1187.length : Int)) = false := decide_eq_false c7
     clear c7
     obtain rfl := Option.some.inj H
     go_wp2
     go_ret
     exact ⟨by first | rfl | (simp [errW_none, errW_some] <;> rfl) | (simp [*, errW_none, errW_some] <;> rfl), bl HB.out⟩
 ·rw [if_neg c3] at H
  have c3b0 : decide (1 ≤ a1) = false := decide_eq_false c3
  clear c3
  obtain rfl := Option.some.inj H
  go_enter Try.func50, Try.ntmps50
  go_wp2
  go_ret
  exact ⟨by first | rfl | (simp [errW_none, errW_some] <;> rfl) | (simp [*, errW_none, errW_some] <;> rfl), bl HB.out⟩
end Go.Proofs.Ytbpjidekjogfeaa.A

namespace Go.Proofs.Ytbpjidekjogfeaa.A
open Go.RowKit Go.Proofs.YtbpjidekjogfeaaW.PrintWords Go.Proofs.YtbpjidekjogfeaaW.PrintLast Go.Proofs.YtbpjidekjogfeaaW.PrintMore
attribute [local go_sem] max2_int min2_int max_two min_two max_three min_three max_four min_four   
set_option linter.unusedVariables false
set_option linter.unusedSimpArgs false
mutual
def laws_FnDoublings.l0 : Nat → List (S41) → List Int → List Int → Int → Option (Bool)
 | 0, _, _, _, _ => none
 | k + 1, x3, x4, x5, x6 => if x6 ≥ 1 then (if 0 ≤ x6 then (if x6 < (x4.length : Int) then (laws_FnDoublings.l1 k x3 x4 x5 x6 (Int.tmod (rd x4 x6) 3)) else (none)) else (none)) else (laws_FnDoublings.l2 k x3 x5 true 0 0)
def laws_FnDoublings.l1 : Nat → List (S41) → List Int → List Int → Int → Int → Option (Bool)
 | 0, _, _, _, _, _ => none
 | k + 1, x3, x4, x5, x6, x7 => if x7 > 0 then (if (x5.length : Int) < 8 then (if x5.length < 17592186044416 then (laws_FnDoublings.l1 k x3 x4 (x5 ++ [x6]) x6 (wrap64 (x7 - 1))) else (none)) else (laws_FnDoublings.l0 k x3 x4 x5 (wrap64 (Int.tdiv x6 2)))) else (laws_FnDoublings.l0 k x3 x4 x5 (wrap64 (Int.tdiv x6 2)))
def laws_FnDoublings.l2 : Nat → List (S41) → List Int → Bool → Int → Int → Option (Bool)
 | 0, _, _, _, _, _ => none
 | k + 1, x3, x5, x8, x9, x10 => if x10 < (x5.length : Int) then (if 0 ≤ x10 then (if x8 = true then ((impl_MostOf.f k x3 (rd x5 x10)).bind fun t1471 => (laws_FnDoublings.l2 k x3 x5 (decide ((wrap64 (x9 + (rd x5 x10))) ≤ (wrap64 ((rd x5 x10) * t1471)))) (wrap64 (x9 + (rd x5 x10))) (wrap64 (x10 + 1)))) else (laws_FnDoublings.l2 k x3 x5 false (wrap64 (x9 + (rd x5 x10))) (wrap64 (x10 + 1)))) else (none)) else ((impl_CanHold.f k x3 x5).bind fun t1472 => (if (t1472 == x8) = true then ((impl_HeldInOrder.f k x3 x5).bind fun t1473 => (some ((t1473 == (x5.length : Int)) == x8))) else (some false)))
end
def laws_FnDoublings.f (k : Nat) (l0 : List Int) : Option (Bool) := (laws_big.f l0).bind fun t1454 => (if t1454 = true then (some true) else ((spec_DrawBank.f k l0).bind fun t1455 => ((spec_DrawPlaces.f k l0).bind fun t1458 => (laws_FnDoublings.l0 k t1455 t1458 (([] : List Int)) 8))))
def laws_FnDoublings.T19 : Bool × List (List Nat × List Nat) := (true, [([], []), ([0], [0]), ([1], [1]), ([1], [1]), ([1], [1]), ([3, 4, 1], [1, 3, 4]), ([5, 1], [1, 5]), ([1], [1]), ([1], [1]), ([1], [1]), ([8, 9, 1], [1, 8, 9]), ([10, 1], [1, 10]), ([7, 11, 1, 1], [1, 7, 11]), ([6, 12, 1], [1, 6, 12]), ([2, 13, 1], [1, 2, 13]), ([1, 14], [1, 14]), ([15, 12, 0, 1, 2, 3, 4, 5, 6, 7, 8, 9, 10, 11, 12, 13, 14, 15], [0, 15])])
def laws_FnDoublings.B19 : List Nat := [0, 1, 3, 3, 3, 27, 59, 3, 3, 3, 771, 1795, 3971, 8187, 16383, 32767, 65535]
theorem laws_FnDoublings.tab19 : rtab .any (opsOf Try.f13 19) = laws_FnDoublings.T19 := by kernel_rfl
theorem laws_FnDoublings.bits19 : waitsOk laws_FnDoublings.T19.2 laws_FnDoublings.B19 = true := by kernel_rfl
set_option maxHeartbeats 8000000 in
set_option maxRecDepth 100000 in
theorem laws_FnDoublings.calls (k : Nat) (A0 : Option Addr) (c0 : Nat) (l0 : List Int) (r : Bool) (w : World) (hr0 : Kd.C (Kd.int .u8) w A0 l0.length l0) (hc0 : l0.length ≤ c0) (hr_ : Aside0 (r = true)) (h : laws_FnDoublings.f k l0 = some r) :
  Calls Try.prog 13 #[.slice A0 l0.length c0] w fun e w' => e = .returned (.bool r) ∧ Below w.heap.size w w' := by
 have HR0 := Aside0.mk hr0
 have HC0 := Aside0.mk hc0
 clear hr0 hc0
 have HB := Aside0.mk (Below.refl w.heap.size w)
 have H : ((laws_big.f l0).bind fun t1454 => (if t1454 = true then (some true) else ((spec_DrawBank.f k l0).bind fun t1455 => ((spec_DrawPlaces.f k l0).bind fun t1458 => (laws_FnDoublings.l0 k t1455 t1458 (([] : List Int)) 8))))) = some r := h
 clear h
 replace H := Option.bind_eq_some_iff.mp H
 obtain ⟨t1454, A20, H⟩ := H
 try dsimp only at H
 have A2 := Aside0.mk A20
 clear A20
 by_cases c3 : t1454 = true
 ·subst c3
  rw [if_pos rfl] at H
  obtain rfl := Option.some.inj H
  go_enter Try.func13, Try.ntmps13
  go_wp2_with (first | ((with_reducible refine gate_callee (f := 27) rfl ?_); refine goesL_ (some 12) rfl rfl Try.func27 (by kernel_rfl) rfl #[.slice A0 l0.length c0] rfl mapd ?_; (with_reducible refine (laws_big.calls _ _ l0 true _ ?side1 ?side2 A2.out).mono ?_); (case side1 => repeat (first | exact HR0.out | (with_reducible refine Kd.C_alloc ?_ _) | (with_reducible refine Kd.C_drewN ?_ _) | (with_reducible refine Kd.C_drew ?_))); (case side2 => exact HC0.out); rintro e w' ⟨rfl, ⟨nd, rfl⟩⟩; refine ⟨_, rfl, ?_⟩))
  go_ret
  exact ⟨by first | rfl | (simp [errW_none, errW_some] <;> rfl) | (simp [*, errW_none, errW_some] <;> rfl), bl HB.out⟩
 ·replace c3 := Bool.eq_false_iff.mpr c3
  subst c3
  rw [if_neg (show ¬ (false = true) by decide)] at H
  replace H := Option.bind_eq_some_iff.mp H
  obtain ⟨t1455, A40, H⟩ := H
  try dsimp only at H
  have A4 := Aside0.mk A40
  clear A40
  replace H := Option.bind_eq_some_iff.mp H
  obtain ⟨t1458, A50, H⟩ := H
  try dsimp only at H
  have A5 := Aside0.mk A50
  clear A50
  obtain ⟨y1461, hy1461⟩ : ∃ y_ : List Int, y_ = (([] : List Int)) := ⟨_, rfl⟩
  replace H : (laws_FnDoublings.l0 k t1455 t1458 y1461 8) = some r := by first | (rw [hy1461]; with_reducible exact H) | (have H2_ := (Option.bind_some _ _).symm.trans H; rw [hy1461]; with_reducible exact H2_) | (have H2_ := (Option.bind_some _ _).symm.trans H; with_reducible exact H2_) | with_reducible exact H | (rw [hy1461]; exact H) | exact H
  have Ny1461 := Aside0.mk hy1461
  clear hy1461
  have H' := Aside0.mk H
  clear H
  go_enter Try.func13, Try.ntmps13
  go_wp2_with (first | ((with_reducible refine gate_callee (f := 27) rfl ?_); refine goesL_ (some 12) rfl rfl Try.func27 (by kernel_rfl) rfl #[.slice A0 l0.length c0] rfl mapd ?_; (with_reducible refine (laws_big.calls _ _ l0 false _ ?side1 ?side2 A2.out).mono ?_); (case side1 => repeat (first | exact HR0.out | (with_reducible refine Kd.C_alloc ?_ _) | (with_reducible refine Kd.C_drewN ?_ _) | (with_reducible refine Kd.C_drew ?_))); (case side2 => exact HC0.out); rintro e w' ⟨rfl, ⟨nd, rfl⟩⟩; refine ⟨_, rfl, ?_⟩) | ((with_reducible refine gate_callee (f := 48) rfl ?_); refine goesL_ (some 14) rfl rfl Try.func48 (by kernel_rfl) rfl #[.slice A0 l0.length c0] rfl mapd ?_; (with_reducible refine (spec_DrawBank.calls k _ _ l0 t1455 _ ?side1 ?side2 A4.out).mono ?_); (case side1 => repeat (first | exact HR0.out | (with_reducible refine Kd.C_alloc ?_ _) | (with_reducible refine Kd.C_drewN ?_ _) | (with_reducible refine Kd.C_drew ?_))); (case side2 => exact HC0.out); rintro e w6 ⟨v1456, rfl, ho0, hb⟩; refine ⟨_, rfl, ?_⟩; have HO1457 := Aside0.mk (Kd.S_lower ho0 (below_size (bl HB.out))); replace HB := Aside0.mk (below_step (bl HB.out) hb); (try clear hb); (try clear hb2); (try clear hk); (try clear hi); (try clear ho0)) | ((with_reducible refine gate_callee (f := 49) rfl ?_); refine goesL_ (some 16) rfl rfl Try.func49 (by kernel_rfl) rfl #[.slice A0 l0.length c0] rfl mapd ?_; (with_reducible refine (spec_DrawPlaces.calls k _ _ l0 t1458 _ ?side1 ?side2 A5.out).mono ?_); (case side1 => exact cb (Kd.C_below HR0.out HB.out)); (case side2 => exact HC0.out); rintro e w7 ⟨v1459, rfl, ho0, hb⟩; refine ⟨_, rfl, ?_⟩; replace HO1457 := Aside0.mk (Kd.S_elder' (by (with_reducible repeat (first | apply Kd.S_alloc | apply Kd.S_drewN | apply Kd.S_drew)); exact HO1457.out) (Kd.R_base ho0) hb); have HO1460 := Aside0.mk (Kd.R_lower ho0 (below_size (bl HB.out))); replace HB := Aside0.mk (below_step (bl HB.out) hb); (try clear hb); (try clear hb2); (try clear hk); (try clear hi); (try clear ho0)) | ((with_reducible refine gate_dst (N := 17) rfl ?_); (try (refine gate_guard (by rfl) ?_; dsimp only)); refine Kd.R_lit (Kd.int .i64) _ 3 ?hg (N := 17) ?hd (xs := ([] : List Int)) (inner := []) (ok := fun _ => True) (okp := fun _ => True) ?hr ?hp (fun _ hk => hk) trivial (Below.refl _ _) (Nat.le_refl _) (by simp) ?_; (case hd => rfl); (case hg => rfl); (case hr => first | (go_simp; done) | (go_simp; rfl)); (case hp => exact (Reps.none _ _)); intro v1462 w8 ho9 hb hg_ hnew_; clear hg_ hnew_; (first | rw [← Ny1461.out] at ho9 | (simp only [Int.reduceToNat] at ho9; rw [← Ny1461.out] at ho9)); replace HO1457 := Aside0.mk (Kd.S_elder' (by (with_reducible repeat (first | apply Kd.S_alloc | apply Kd.S_drewN | apply Kd.S_drew)); exact HO1457.out) (Kd.R_base ho9) hb); have HO1463 := Aside0.mk (Kd.R_lower (Kd.R_new' ho9 (Kd.R_lt (rk HO1460.out))) (below_size (bl HB.out))); replace HO1460 := Aside0.mk (Kd.R_elder' (rk HO1460.out) (Kd.R_base ho9) hb); replace HB := Aside0.mk (below_step (bl HB.out) hb); clear hb ho9))
  go_loopg [5, 6] k (fun kq v5 v6 w' => ∃ (x5_1 : List Int) (x6_1 : Int), v6 = .int .i64 x6_1 ∧ Aside0 (laws_FnDoublings.l0 kq t1455 t1458 x5_1 x6_1 = some r) ∧ Aside0 (kq ≤ k) ∧ Aside0 (Kd.S k41 41 w' w.heap.size (fun k_ => some k_ ≠ (v1459 : Value).ownBlock ∧ some k_ ≠ (v5 : Value).ownBlock) v1456 t1455) ∧ Aside0 (Kd.R (Kd.int .i64) 3 w' w.heap.size (fun k_ => some k_ ≠ (v5 : Value).ownBlock) v1459 t1458) ∧ Aside0 (Kd.R (Kd.int .i64) 3 w' w.heap.size (fun k_ => some k_ ≠ (v1459 : Value).ownBlock) v5 x5_1) ∧ Aside0 (Below w.heap.size w w'))
  case atStart => exact ⟨(y1461), (8), (by first | rfl | (simp; done) | (simp [*]; done)), H', ⟨Nat.le_refl _⟩, ⟨by (with_reducible repeat (first | apply Kd.S_alloc | apply Kd.S_drewN | apply Kd.S_drew)); exact Kd.S_mono HO1457.out (fun _ hk => ⟨hk.1.2, hk.2⟩)⟩, ⟨by refine rk ?_; exact Kd.R_mono HO1460.out (fun _ hk => hk.2)⟩, ⟨by refine rk ?_; exact Kd.R_mono HO1463.out (fun _ hk => hk.2)⟩, ⟨bl HB.out⟩⟩
  case round =>
   clear H'
   try clear c1
   try clear c2
   try clear p2
   try clear c3
   try clear c4
   obtain ⟨x5_1, x6_1, rfl, HA, HK1, HO_3, HO_4, HO_5, HB⟩ := hrel
   cases gk with
   | zero => exact absurd HA.out (by simp [laws_FnDoublings.l0])
   | succ k1 =>
    have H := HA.out
    clear HA
    simp only [laws_FnDoublings.l0] at H
    by_cases c10 : x6_1 ≥ 1
    ·rw [if_pos c10] at H
     have c10b0 : decide (1 ≤ x6_1) = true := decide_eq_true c10
     clear c10
     by_cases c11 : 0 ≤ x6_1
     ·rw [if_pos c11] at H
      have c11b0 : decide (0 ≤ x6_1) = true := decide_eq_true c11
      clear c11
      by_cases c12 : x6_1 < (t1458.length : Int)
      ·rw [if_pos c12] at H
       have c12b0 : decide (x6_1 < (t1458.length : Int)) = true := decide_eq_true c12
       clear c12
       have H' := Aside0.mk H
       clear H
       obtain ⟨Ao13, co13, eo13⟩ := Kd.R_slice HO_4.out
       subst eo13
       have p1464 : 0 ≤ (x6_1 : Int) := of_decide_eq_true asm
       have q1464 : x6_1 < (t1458.length : Int) := of_decide_eq_true asm
       obtain ⟨ad1464, e1464, hx1464_0⟩ := Kd.at_int (Kd.R_reads' HO_4.out).2.2 x6_1 p1464 q1464
       cases e1464
       replace p1464 := eq_true p1464
       replace q1464 := eq_true q1464
       go_wp2
       go_loopg [5, 7] k1 (fun kq v5 v7 w' => ∃ (x5_2 : List Int) (x7_2 : Int), v7 = .int .i64 x7_2 ∧ Aside0 (laws_FnDoublings.l1 kq t1455 t1458 x5_2 x6_1 x7_2 = some r) ∧ Aside0 (kq ≤ k1) ∧ Aside0 (Kd.S k41 41 w' w.heap.size (fun k_ => some k_ ≠ ((.slice (some ad1464) t1458.length co13) : Value).ownBlock ∧ some k_ ≠ (v5 : Value).ownBlock) v1456 t1455) ∧ Aside0 (Kd.R (Kd.int .i64) 3 w' w.heap.size (fun k_ => some k_ ≠ (v5 : Value).ownBlock) (.slice (some ad1464) t1458.length co13) t1458) ∧ Aside0 (Kd.R (Kd.int .i64) 3 w' w.heap.size (fun k_ => some k_ ≠ ((.slice (some ad1464) t1458.length co13) : Value).ownBlock) v5 x5_2) ∧ Aside0 (Below w.heap.size w w'))
       case atStart => exact ⟨(x5_1), (Int.tmod (rd t1458 x6_1) 3), (by first | rfl | (simp; done) | (simp [*]; done)), H', ⟨Nat.le_refl _⟩, ⟨by (with_reducible repeat (first | apply Kd.S_alloc | apply Kd.S_drewN | apply Kd.S_drew)); exact HO_3.out⟩, ⟨rk HO_4.out⟩, ⟨rk HO_5.out⟩, ⟨bl HB.out⟩⟩
       case round =>
        clear H'
        try clear c1
        try clear p1
        try clear q1
        try clear hx1
        try clear c2
        try clear p2
        try clear c3
        try clear c4
        try clear c10
        try clear c10b0
        try clear c11
        try clear c11b0
        try clear c12
        try clear c12b0
        try clear c13
        try clear hx1464_0
        try clear p1464
        try clear p2
        try clear q1464
        obtain ⟨x5_2, x7_2, rfl, HA, HK2, HO_3, HO_4, HO_5, HB⟩ := hrel
        cases gk with
        | zero => exact absurd HA.out (by simp [laws_FnDoublings.l1])
        | succ k2 =>
         have H := HA.out
         clear HA
         simp only [laws_FnDoublings.l1] at H
         by_cases c14 : x7_2 > 0
         ·rw [if_pos c14] at H
          have c14b0 : decide (0 < x7_2) = true := decide_eq_true c14
          clear c14
          by_cases c15 : (x5_2.length : Int) < 8
          ·rw [if_pos c15] at H
           have c15b0 : decide ((x5_2.length : Int) < 8) = true := decide_eq_true c15
           have c15b1 : decide (x5_2.length < 8) = true := decide_eq_true (by omega)
           clear c15
           by_cases c16 : x5_2.length < 17592186044416
           ·rw [if_pos c16] at H
            have LMc16 := Aside0.mk c16
            clear c16
            obtain ⟨y1465, hy1465⟩ : ∃ y_ : List Int, y_ = (x5_2 ++ [x6_1]) := ⟨_, rfl⟩
            replace H : (laws_FnDoublings.l1 k2 t1455 t1458 y1465 x6_1 (wrap64 (x7_2 - 1))) = some r := by first | (rw [hy1465]; with_reducible exact H) | (have H2_ := (Option.bind_some _ _).symm.trans H; rw [hy1465]; with_reducible exact H2_) | (have H2_ := (Option.bind_some _ _).symm.trans H; with_reducible exact H2_) | with_reducible exact H | (rw [hy1465]; exact H) | exact H
            have Ny1465 := Aside0.mk hy1465
            clear hy1465
            have H' := Aside0.mk H
            clear H
            obtain ⟨Ao17, co17, eo17⟩ := Kd.R_slice HO_5.out
            subst eo17
            go_wp2_with (first | ((with_reducible refine gate_builtin (b := .append) (xs := #[.tmp 36, .tmp 38]) rfl ?_); (try (refine gate_guard (by rfl) ?_; dsimp only)); at_builtin; refine Kd.R_append (Kd.int .i64) (w0 := w) w.heap.size rfl (.tmp 36) (.tmp 38) 38 3 (.int .i64 0) 8 rfl Try.underlying38 info3 rfl (by decide) (by omega) (.slice Ao17 x5_2.length co17) x5_2 x6_1 [.int .i64 x6_1] (fun k_ => some k_ ≠ (.slice (some ad1464) t1458.length co13 : Value).ownBlock) (fun _ => False) rfl rfl ?aP (fun _ hk => hk.elim) ?aF ?aO ?aB ?aS ?aL ?_; (case aP => exact rfl); (case aB => exact (bl HB.out)); (case aF => exact (fun k_ hk => Kd.fresh' (Kd.R_lt (rk HO_4.out)) k_ hk)); (case aO => exact (rk HO_5.out)); (case aS => exact (below_size (bl HB.out))); (case aL => have := LMc16.out; omega); intro v1466 w18 ho hb hg hat; rw [← Ny1465.out] at ho; replace HO_3 := Aside0.mk (Kd.S_after (ok := (fun k_ => some k_ ≠ (.slice (some ad1464) t1458.length co13 : Value).ownBlock)) (by (with_reducible repeat (first | apply Kd.S_alloc | apply Kd.S_drewN | apply Kd.S_drew)); exact HO_3.out) hg hat); replace HO_4 := Aside0.mk (Kd.R_after (ok := (fun _ => True)) (by refine rk ?_; exact Kd.R_mono HO_4.out (fun _ hk => ⟨trivial, hk⟩)) hg hat); replace HB := Aside0.mk (hb); have HO1467 := Aside0.mk (ho); clear HO_5; clear ho hb hg hat))
            go_roundg k2
            case measure => have := HK1.out; have := HK2.out; omega
            case rel => exact ⟨(y1465), (wrap64 (x7_2 - 1)), (by first | rfl | (simp; done) | (simp [*]; done)), H', ⟨by have := HK1.out; have := HK2.out; omega⟩, ⟨by (with_reducible repeat (first | apply Kd.S_alloc | apply Kd.S_drewN | apply Kd.S_drew)); exact HO_3.out⟩, ⟨by refine rk ?_; exact Kd.R_mono HO_4.out (fun _ hk => hk.2)⟩, ⟨rk HO1467.out⟩, ⟨bl HB.out⟩⟩
           ·rw [if_neg c16] at H
            exact absurd H (by simp)
          ·rw [if_neg c15] at H
           have c15b0 : decide ((x5_2.length : Int) < 8) = false := decide_eq_false c15
           have c15b1 : decide (x5_2.length < 8) = false := decide_eq_false (by omega)
           clear c15
           have H' := Aside0.mk H
           clear H
           obtain ⟨Ao19, co19, eo19⟩ := Kd.R_slice HO_5.out
           subst eo19
           go_wp2
           go_roundg k2
           case measure => have := HK1.out; have := HK2.out; omega
           case rel => exact ⟨(x5_2), (wrap64 (Int.tdiv x6_1 2)), (by first | rfl | (simp; done) | (simp [*]; done)), H', ⟨by have := HK1.out; have := HK2.out; omega⟩, ⟨by (with_reducible repeat (first | apply Kd.S_alloc | apply Kd.S_drewN | apply Kd.S_drew)); exact HO_3.out⟩, ⟨rk HO_4.out⟩, ⟨rk HO_5.out⟩, ⟨bl HB.out⟩⟩
         ·rw [if_neg c14] at H
          have c14b0 : decide (0 < x7_2) = false := decide_eq_false c14
          clear c14
          have H' := Aside0.mk H
          clear H
          go_wp2
          go_roundg k2
          case measure => have := HK1.out; have := HK2.out; omega
          case rel => exact ⟨(x5_2), (wrap64 (Int.tdiv x6_1 2)), (by first | rfl | (simp; done) | (simp [*]; done)), H', ⟨by have := HK1.out; have := HK2.out; omega⟩, ⟨by (with_reducible repeat (first | apply Kd.S_alloc | apply Kd.S_drewN | apply Kd.S_drew)); exact HO_3.out⟩, ⟨rk HO_4.out⟩, ⟨rk HO_5.out⟩, ⟨bl HB.out⟩⟩
      ·rw [if_neg c12] at H
       exact absurd H (by simp)
     ·rw [if_neg c11] at H
      exact absurd H (by simp)
    ·rw [if_neg c10] at H
     have c10b0 : decide (1 ≤ x6_1) = false := decide_eq_false c10
     clear c10
     have H' := Aside0.mk H
     clear H
     go_wp2
     go_loopg [8, 9, 10] k1 (fun kq v8 v9 v10 w' => ∃ (x8_2 : Bool) (x9_2 : Int) (x10_2 : Int), v8 = .bool x8_2 ∧ v9 = .int .i64 x9_2 ∧ v10 = .int .i64 x10_2 ∧ Aside0 (laws_FnDoublings.l2 kq t1455 x5_1 x8_2 x9_2 x10_2 = some r) ∧ Aside0 (kq ≤ k1) ∧ Aside0 (Kd.S k41 41 w' w.heap.size (fun k_ => some k_ ≠ (u5 : Value).ownBlock) v1456 t1455) ∧ Aside0 (Kd.R (Kd.int .i64) 3 w' w.heap.size (fun _ => True) u5 x5_1) ∧ Aside0 (Below w.heap.size w w'))
     case atStart => exact ⟨(true), (0), (0), (by first | rfl | (simp; done) | (simp [*]; done)), (by first | rfl | (simp; done) | (simp [*]; done)), (by first | rfl | (simp; done) | (simp [*]; done)), H', ⟨Nat.le_refl _⟩, ⟨by (with_reducible repeat (first | apply Kd.S_alloc | apply Kd.S_drewN | apply Kd.S_drew)); exact Kd.S_mono HO_3.out (fun _ hk => hk.2)⟩, ⟨by refine rk ?_; exact Kd.R_mono HO_5.out (fun _ hk => trivial)⟩, ⟨bl HB.out⟩⟩
     case round =>
      clear H'
      try clear c1
      try clear p1
      try clear q1
      try clear hx1
      try clear c2
      try clear p2
      try clear c3
      try clear c4
      try clear p6
      try clear c10
      try clear c10b0
      try clear c11
      try clear c11b0
      try clear c12
      try clear c12b0
      try clear c13
      try clear c14
      try clear c14b0
      try clear p14
      try clear q14
      try clear hx14
      try clear c15
      try clear c15b0
      try clear c15b1
      try clear c16
      try clear hx1464_0
      try clear p1
      try clear p1464
      try clear p2
      try clear q1
      try clear q1464
      obtain ⟨x8_2, x9_2, x10_2, rfl, rfl, rfl, HA, HK2, HO_3, HO_5, HB⟩ := hrel
      cases gk with
      | zero => exact absurd HA.out (by simp [laws_FnDoublings.l2])
      | succ k2 =>
       have H := HA.out
       clear HA
       simp only [laws_FnDoublings.l2] at H
       by_cases c20 : x10_2 < (x5_1.length : Int)
       ·rw [if_pos c20] at H
        have c20b0 : decide (x10_2 < (x5_1.length : Int)) = true := decide_eq_true c20
        clear c20
        by_cases c21 : 0 ≤ x10_2
        ·rw [if_pos c21] at H
         have c21b0 : decide (0 ≤ x10_2) = true := decide_eq_true c21
         clear c21
         by_cases c22 : x8_2 = true
         ·subst c22
          rw [if_pos rfl] at H
          replace H := Option.bind_eq_some_iff.mp H
          obtain ⟨t1471, A230, H⟩ := H
          try dsimp only at H
          have A23 := Aside0.mk A230
          clear A230
          have H' := Aside0.mk H
          clear H
          obtain ⟨Ao24, co24, eo24⟩ := Kd.R_slice HO_5.out
          subst eo24
          have p1468 : 0 ≤ (x10_2 : Int) := of_decide_eq_true asm
          have q1468 : x10_2 < (x5_1.length : Int) := of_decide_eq_true asm
          obtain ⟨ad1468, e1468, hx1468_0⟩ := Kd.at_int (Kd.R_reads' HO_5.out).2.2 x10_2 p1468 q1468
          cases e1468
          replace p1468 := eq_true p1468
          replace q1468 := eq_true q1468
          try go_wp2
          replace HO_3 := Aside0.mk (Kd.S_drew HO_3.out)
          replace HO_5 := Aside0.mk (Kd.R_drew HO_5.out)
          replace HB := Aside0.mk (below_drew1 HB.out)
          have p1469 : 0 ≤ (x10_2 : Int) := of_decide_eq_true asm
          have q1469 : x10_2 < (x5_1.length : Int) := of_decide_eq_true asm
          obtain ⟨ad1469, e1469, hx1469_0⟩ := Kd.at_int (Kd.R_reads' HO_5.out).2.2 x10_2 p1469 q1469
          obtain rfl : ad1468 = ad1469 := (by injection e1469)
          replace p1469 := eq_true p1469
          replace q1469 := eq_true q1469
          have p1470 : 0 ≤ (x10_2 : Int) := of_decide_eq_true asm
          have q1470 : x10_2 < (x5_1.length : Int) := of_decide_eq_true asm
          obtain ⟨ad1470, e1470, hx1470_0⟩ := Kd.at_int (Kd.R_reads' HO_5.out).2.2 x10_2 p1470 q1470
          obtain rfl : ad1468 = ad1470 := (by injection e1470)
          replace p1470 := eq_true p1470
          replace q1470 := eq_true q1470
          obtain ⟨Ao26, co26, eo26⟩ := Kd.S_slice HO_3.out
          (first | subst eo26 | (injection eo26 with f1_ f2_ f3_; have f4_ := f1_.symm; have f5_ := f3_.symm; clear f1_ f2_ f3_; subst f4_; subst f5_))
          refine start_ (n := 17) (S := fun w' => w'.cell? (ad1468.add (x10_2).toNat) = some (.int .i64 (rd x5_1 x10_2)) ∧ w'.cell? (ad1468.add (x10_2).toNat) = some (.int .i64 (rd x5_1 x10_2))) (ds := []) #[false, false, false, false, false, false, false, false, false, false, false, false, false, false, false, false, false] (by kernel_rfl) rfl rfl ⟨hx1469_0, hx1470_0⟩ (fun hHeld => ?_); refine with_tabW laws_FnDoublings.tab19 laws_FnDoublings.bits19 (fun HT_ HW_ => ?_)
          generalize wr.drew = w25 at HO_3 HO_5 HB hx1469_0 hx1470_0 hHeld ⊢
          refine puA (i := 0) (N := some 52) HT_.out ?_
          refine puA (i := 1) (N := some 53) HT_.out ?_
          refine puA (i := 2) (N := some 54) HT_.out ?_
          refine puA (i := 3) (N := some 55) HT_.out ?_
          refine puA (i := 4) (N := some 56) HT_.out ?_
          refine puA (i := 5) (N := some 57) HT_.out ?_
          refine puA (i := 7) (N := some 59) HT_.out ?_
          refine puA (i := 8) (N := some 60) HT_.out ?_
          refine puA (i := 9) (N := some 61) HT_.out ?_
          refine puA (i := 10) (N := some 62) HT_.out ?_
          refine tkA2 (i := 6) (N := some 58) HT_.out HW_.out hHeld ?_
          refine tkA2 (i := 11) (N := some 63) HT_.out HW_.out hHeld ?_
          refine onA (i := 12) (N := some 64) HT_.out (fun K hK => ?_)
          refine goes_ Try.func50 (by kernel_rfl) rfl #[.slice Ao26 t1455.length co26, .int .i64 (rd x5_1 x10_2)] (by rfl) rfl rfl mapd ?_
          with_reducible refine (impl_MostOf.calls k2 _ _ t1455 (rd x5_1 x10_2) t1471 _ ?side1 ?side2 A23.out).mono ?_
          (case side1 => exact cb ((Kd.S_reads' HO_3.out).2.2))
          (case side2 => exact (Kd.S_reads' HO_3.out).2.1)
          rintro e w27 ⟨rfl, hb⟩
          have HS0_ := (hb.cell (World.block_lt_of_cell? _ _ (hHeld.1))).trans (hHeld.1)
          have HS1_ := (hb.cell (World.block_lt_of_cell? _ _ (hHeld.2))).trans (hHeld.2)
          refine ⟨_, rfl, ?_⟩
          replace HO_3 := Aside0.mk (Kd.S_below (by (with_reducible repeat (first | apply Kd.S_alloc | apply Kd.S_drewN | apply Kd.S_drew)); exact HO_3.out) hb)
          replace HO_5 := Aside0.mk (Kd.R_below (rk HO_5.out) hb)
          replace HB := Aside0.mk (below_step (bl HB.out) hb)
          (try clear hb)
          (try clear hb2)
          (try clear hk)
          (try clear hi)
          refine hK.out _ _ ⟨HS0_, HS1_⟩ (fun hHeld => ?_)
          clear hK K
          refine norm_ (a' := ?_) ?_ ?_
          rotate_left
          ·show Act.put _ (some 64) _ = _
           simp only [Act.put, List.setIfInBounds_toArray, List.set_cons_zero, List.set_cons_succ, i64_w, i32_w]
           rfl
          refine puA (i := 13) (N := some 65) HT_.out ?_
          refine puA (i := 14) (N := some 66) HT_.out ?_
          refine puA (i := 15) (N := some 67) HT_.out ?_
          refine puA (i := 16) (N := some 8) HT_.out ?_
          refine done_ (done_of HT_.out (by kernel_rfl)) ?_
          try go_wp2
          go_roundg k2
          case measure => have := HK1.out; have := HK2.out; omega
          case rel => exact ⟨(decide ((wrap64 (x9_2 + (rd x5_1 x10_2))) ≤ (wrap64 ((rd x5_1 x10_2) * t1471)))), (wrap64 (x9_2 + (rd x5_1 x10_2))), (wrap64 (x10_2 + 1)), (by first | rfl | (simp; done) | (simp [*]; done)), (by first | rfl | (simp; done) | (simp [*]; done)), (by first | rfl | (simp; done) | (simp [*]; done)), H', ⟨by have := HK1.out; have := HK2.out; omega⟩, ⟨by (with_reducible repeat (first | apply Kd.S_alloc | apply Kd.S_drewN | apply Kd.S_drew)); exact HO_3.out⟩, ⟨rk HO_5.out⟩, ⟨bl HB.out⟩⟩
         ·replace c22 := Bool.eq_false_iff.mpr c22
          subst c22
          rw [if_neg (show ¬ (false = true) by decide)] at H
          have H' := Aside0.mk H
          clear H
          obtain ⟨Ao28, co28, eo28⟩ := Kd.R_slice HO_5.out
          subst eo28
          have p1468 : 0 ≤ (x10_2 : Int) := of_decide_eq_true asm
          have q1468 : x10_2 < (x5_1.length : Int) := of_decide_eq_true asm
          obtain ⟨ad1468, e1468, hx1468_0⟩ := Kd.at_int (Kd.R_reads' HO_5.out).2.2 x10_2 p1468 q1468
          cases e1468
          replace p1468 := eq_true p1468
          replace q1468 := eq_true q1468
          try go_wp2
          replace HO_3 := Aside0.mk (Kd.S_drew HO_3.out)
          replace HO_5 := Aside0.mk (Kd.R_drew HO_5.out)
          replace HB := Aside0.mk (below_drew1 HB.out)
          refine start_ (n := 17) (S := fun w' => True) (ds := []) #[false, false, false, false, false, false, false, false, false, false, false, false, false, false, false, false, false] (by kernel_rfl) rfl rfl trivial (fun hHeld => ?_); refine with_tabW laws_FnDoublings.tab19 laws_FnDoublings.bits19 (fun HT_ HW_ => ?_)
          generalize wr.drew = w29 at HO_3 HO_5 HB hHeld ⊢
          refine puA (i := 0) (N := some 52) HT_.out ?_
          refine puA (i := 1) (N := some 53) HT_.out ?_
          refine puU (i := 2) (N := some 54) HT_.out ?_
          refine puU (i := 3) (N := some 55) HT_.out ?_
          refine puU (i := 4) (N := some 56) HT_.out ?_
          refine puU (i := 5) (N := some 57) HT_.out ?_
          refine puU (i := 6) (N := some 58) HT_.out ?_
          refine puU (i := 7) (N := some 59) HT_.out ?_
          refine puU (i := 8) (N := some 60) HT_.out ?_
          refine puU (i := 9) (N := some 61) HT_.out ?_
          refine puU (i := 10) (N := some 62) HT_.out ?_
          refine puU (i := 11) (N := some 63) HT_.out ?_
          refine puU (i := 12) (N := some 64) HT_.out ?_
          refine puU (i := 13) (N := some 65) HT_.out ?_
          refine puU (i := 14) (N := some 66) HT_.out ?_
          refine puA (i := 15) (N := some 67) HT_.out ?_
          refine puA (i := 16) (N := some 8) HT_.out ?_
          refine done_ (done_of HT_.out (by kernel_rfl)) ?_
          try go_wp2
          go_roundg k2
          case measure => have := HK1.out; have := HK2.out; omega
          case rel => exact ⟨(false), (wrap64 (x9_2 + (rd x5_1 x10_2))), (wrap64 (x10_2 + 1)), (by first | rfl | (simp; done) | (simp [*]; done)), (by first | rfl | (simp; done) | (simp [*]; done)), (by first | rfl | (simp; done) | (simp [*]; done)), H', ⟨by have := HK1.out; have := HK2.out; omega⟩, ⟨by (with_reducible repeat (first | apply Kd.S_alloc | apply Kd.S_drewN | apply Kd.S_drew)); exact HO_3.out⟩, ⟨rk HO_5.out⟩, ⟨bl HB.out⟩⟩
        ·rw [if_neg c21] at H
         exact absurd H (by simp)
       ·rw [if_neg c20] at H
        have c20b0 : decide (x10_2 < (x5_1.length : Int)) = false := decide_eq_false c20
        clear c20
        replace H := Option.bind_eq_some_iff.mp H
        obtain ⟨t1472, A300, H⟩ := H
        try dsimp only at H
        have A30 := Aside0.mk A300
        clear A300
        by_cases c31 : (t1472 == x8_2) = true
        ·rw [if_pos c31] at H
         have c31b0 : (t1472 == x8_2) = true := c31
         (try (have c31b1 : decide (t1472 = x8_2) = true := by simpa using c31))
         (try (have c31b2 : (t1472 == x8_2) = true := by simpa using c31))
         clear c31
         replace H := Option.bind_eq_some_iff.mp H
         obtain ⟨t1473, A320, H⟩ := H
         try dsimp only at H
         have A32 := Aside0.mk A320
         clear A320
         obtain rfl := Option.some.inj H
         obtain ⟨Ao33, co33, eo33⟩ := Kd.R_slice HO_5.out
         subst eo33
         obtain ⟨Ao34, co34, eo34⟩ := Kd.S_slice HO_3.out
         subst eo34
         go_wp2_with (first | ((with_reducible refine gate_callee (f := 44) rfl ?_); refine goesL_ (some 70) rfl rfl Try.func44 (by kernel_rfl) rfl #[.slice Ao34 t1455.length co34, .slice Ao33 x5_1.length co33] rfl mapd ?_; (with_reducible refine (impl_CanHold.calls k2 _ _ t1455 _ _ x5_1 t1472 _ ?side1 ?side2 ?side3 ?side4 A30.out).mono ?_); (case side1 => exact cb ((Kd.S_reads' HO_3.out).2.2)); (case side2 => exact (Kd.S_reads' HO_3.out).2.1); (case side3 => exact cb ((Kd.R_reads' HO_5.out).2.2)); (case side4 => exact (Kd.R_reads' HO_5.out).2.1); rintro e w35 ⟨rfl, hb⟩; refine ⟨_, rfl, ?_⟩; replace HO_3 := Aside0.mk (Kd.S_below (by (with_reducible repeat (first | apply Kd.S_alloc | apply Kd.S_drewN | apply Kd.S_drew)); exact HO_3.out) hb); replace HO_5 := Aside0.mk (Kd.R_below (rk HO_5.out) hb); replace HB := Aside0.mk (below_step (bl HB.out) hb); (try clear hb); (try clear hb2); (try clear hk); (try clear hi)) | (go_at_call 47; (with_reducible refine (impl_HeldInOrder.calls k2 _ _ t1455 _ _ x5_1 t1473 _ ?side1 ?side2 ?side3 ?side4 A32.out).mono ?_); (case side1 => exact cb ((Kd.S_reads' HO_3.out).2.2)); (case side2 => exact (Kd.S_reads' HO_3.out).2.1); (case side3 => exact cb ((Kd.R_reads' HO_5.out).2.2)); (case side4 => exact (Kd.R_reads' HO_5.out).2.1); rintro e w36 ⟨rfl, hb⟩; replace HO_3 := Aside0.mk (Kd.S_below (by (with_reducible repeat (first | apply Kd.S_alloc | apply Kd.S_drewN | apply Kd.S_drew)); exact HO_3.out) hb); replace HO_5 := Aside0.mk (Kd.R_below (rk HO_5.out) hb); replace HB := Aside0.mk (below_step (bl HB.out) hb); (try clear hb); (try clear hb2); (try clear hk); (try clear hi)))
         go_ret
         exact ⟨by first | rfl | (simp [errW_none, errW_some] <;> rfl) | (simp [*, errW_none, errW_some] <;> rfl), bl HB.out⟩
        ·rw [if_neg c31] at H
         have c31b0 : (t1472 == x8_2) = false := by simpa using c31
         (try (have c31b1 : decide (t1472 = x8_2) = false := by simpa using c31))
         (try (have c31b2 : (t1472 == x8_2) = false := by simpa using c31))
         (try (have c31b3 : ¬ (t1472 = x8_2) := by simpa using c31))
         clear c31
         exact absurd (Option.some.inj H) (by rw [hr_.out]; decide)
end Go.Proofs.Ytbpjidekjogfeaa.A

namespace Go.Proofs.Ytbpjidekjogfeaa.A
open Go.ChangeShapes Go.WideShapes Go.ChangeAt Go.RowKit Go.Proofs.YtbpjidekjogfeaaW.PrintWords Go.Proofs.YtbpjidekjogfeaaW.PrintLast
set_option linter.unusedVariables false
set_option linter.unusedSimpArgs false
def Opn {α : Type} (P : Program) (t : TypeId) (d : Kd α) (ok : α → Prop) : Prop :=
 ∀ {H : Type} {enc : TypeId × Value → H} (w : World) (fuel : Nat) (cs : List Value) (x : DataW H × List MemPlace),
  DataW.trod enc P w 0 (fun _ => true) true fuel t cs = some x → ∃ a, d.K w a cs ∧ ok a
theorem opn_int {P : Program} {t : TypeId} {k : IntKind} (ht : P.underlying t = some (.int k)) : Opn P t (Kd.int k) (fun a => (Lit.int k a).wf = true) := by
 intro H enc w fuel cs x h
 obtain ⟨n, rfl, _, hw⟩ := DataW.trod_int ht h
 exact ⟨n, rfl, hw⟩
theorem add_add_ (a : Addr) (i j : Nat) : (a.add i).add j = a.add (i + j) := by
 unfold Addr.add
 by_cases hi : i = 0
 ·subst hi; simp
 ·by_cases hj : j = 0
  ·subst hj; simp
  ·rw [if_neg hi, if_neg hj, if_neg (by omega)]
   simp; omega
theorem cells_at {w : World} {base : Nat} {a : Addr} {n : Nat} {cs : List Value} (h : w.cells? base a n = some cs) : cs.length = n ∧ ∀ i u, cs[i]? = some u → w.cell? (a.add i) = some u := by
 unfold World.cells? at h
 split at h
 ·have l := mapM_some_length h
  simp only [List.length_range] at l
  refine ⟨l, fun i u hu => ?_⟩
  have hi := (List.getElem?_eq_some_iff.1 hu).1
  have := mapM_some_get h i i (by simp [show i < n by omega])
  rw [this]; exact hu
 ·cases h
theorem choose_list {α : Type} {Q : Nat → α → Prop} (m : Nat) (h : ∀ i, i < m → ∃ v, Q i v) : ∃ l : List α, l.length = m ∧ ∀ i v, l[i]? = some v → Q i v := by
 induction m with
 | zero => exact ⟨[], rfl, fun i v hv => by simp at hv⟩
 | succ m ih =>
  obtain ⟨l, hl, hq⟩ := ih (fun i hi => h i (by omega))
  obtain ⟨v, hv⟩ := h m (by omega)
  refine ⟨l ++ [v], by simp [hl], fun i u hu => ?_⟩
  rcases Nat.lt_trichotomy i m with hi | hi | hi
  ·rw [List.getElem?_append_left (by omega)] at hu
   exact hq i u hu
  ·subst hi
   rw [List.getElem?_append_right (by omega), hl, Nat.sub_self] at hu
   have : v = u := by simpa using hu
   exact this ▸ hv
  ·rw [List.getElem?_eq_none (by simp; omega)] at hu
   cases hu
theorem opn_slice {α : Type} {P : Program} {t e : TypeId} {d : Kd α} {ok : α → Prop} (ht : P.underlying t = some (.slice e)) (hs : P.cellsOf e = d.sz) (ho : Opn P e d ok) :
  Opn P t (Kd.slice e d) (fun l => l.length ≤ maxLen ∧ ∀ x ∈ l, ok x) := by
 intro H enc w fuel cs x h
 rcases DataW.trod_slice ht h with ⟨rfl, _⟩ | ⟨a, len, cap, elems, rest, n, _, rfl, _, _, hl, hm, hlen, hel, _, _⟩
 ·exact ⟨[], ⟨none, 0, rfl, Nat.le_refl _, rfl, Nat.zero_le _, fun h => absurd h (by simp)⟩, by simp, by simp⟩
 ·have each : ∀ i, i < len → ∃ v, ok v ∧ ∃ c, c.length = d.sz ∧ d.K w v c ∧ ∀ j u, c[j]? = some u → w.cell? (a.add (i * d.sz + j)) = some u := by
   intro i hi
   have h1 := hel i hi
   rw [List.getElem?_eq_getElem (by omega)] at h1
   obtain ⟨c, hc, hr⟩ := Option.bind_eq_some_iff.1 h1
   obtain ⟨v, hk, hv⟩ := ho w n c _ hr
   obtain ⟨_, hcell⟩ := cells_at hc
   refine ⟨v, hv, c, d.K_len hk, hk, fun j u hu => ?_⟩
   have := hcell j u hu
   rw [hs, add_add_] at this
   exact this
  obtain ⟨l, hll, hq⟩ := choose_list len each
  subst hll
  have hm' : l.length ≤ maxLen := Nat.le_trans hl hm
  refine ⟨l, ⟨some a, cap, rfl, hl, rfl, by unfold maxLen at hm'; omega, fun _ => ⟨a, rfl, fun j p hp => ?_⟩⟩, hm', fun v hv => ?_⟩
  ·obtain ⟨_, c, h1, h2, h3⟩ := hq j p hp
   exact ⟨c, h1, h2, h3⟩
  ·obtain ⟨i, hi, rfl⟩ := List.getElem_of_mem hv
   exact (hq i _ (List.getElem?_eq_getElem hi)).1
theorem opn_top {α : Type} {H : Type} {enc : TypeId × Value → H} {P : Program} {w : World} {t : TypeId} {d : Kd α} {ok : α → Prop} {v : Value} {x : DataW H} {ps : List MemPlace} (ho : Opn P t d ok)
  (h : DataW.Trod enc P w 0 (fun _ => true) true t v x ps) : ∃ a, d.K w a v.cells.toList ∧ ok a := by
 obtain ⟨fuel, hf⟩ := h
 exact ho w fuel _ _ hf
theorem slice_eq {a b : Option Addr} {l m c q : Nat} (h : (Value.slice a l c).cells.toList = [.slice b m q]) : a = b ∧ l = m ∧ c = q := by
 simpa [Value.cells] using h
abbrev ok5 (a : Int) : Prop := (Lit.int .u8 a).wf = true
abbrev ok36 (l : List Int) : Prop := l.length ≤ maxLen ∧ ∀ x ∈ l, ok5 x
theorem op5 : Opn Try.prog 5 (Kd.int .u8) ok5 := opn_int Try.underlying5
theorem op36 : Opn Try.prog 36 (Kd.slice 5 (Kd.int .u8)) ok36 := opn_slice Try.underlying36 (by kernel_rfl) op5
end Go.Proofs.Ytbpjidekjogfeaa.A
