/- What the proof of the law FnExactHeldInOrder uses: lemmas, the Lean functions of the Go functions that it reaches, their contracts, and the pure statement's proof. -/
import Derived.Test.YtbpjidekjogfeaaZFnExactHeldInOrderx14
import Derived.Test.YtbpjidekjogfeaaZFnExactHeldInOrderx17
import Derived.Test.YtbpjidekjogfeaaZFnExactHeldInOrderx18
import Derived.Test.YtbpjidekjogfeaaZFnExactHeldInOrderx19
import Derived.Test.YtbpjidekjogfeaaZFnExactHeldInOrderx20
import Derived.Test.YtbpjidekjogfeaaZFnExactHeldInOrderx16
import Derived.Test.YtbpjidekjogfeaaZFnExactHeldInOrderx15
import Derived.ProofKit
import Derived.OpenShut
import Derived.ShutString
import Derived.ChangeOld
import Derived.SizedLaws
import Derived.ChangeArms
import Derived.Test.YtbpjidekjogfeaaZFnExactHeldInOrderh
namespace Go.Proofs.Ytbpjidekjogfeaa.A
open Go.RowKit Go.Proofs.YtbpjidekjogfeaaW.PrintWords Go.Proofs.YtbpjidekjogfeaaW.PrintLast Go.Proofs.YtbpjidekjogfeaaW.PrintMore
attribute [local go_sem] max2_int min2_int max_two min_two max_three min_three max_four min_four   
set_option linter.unusedVariables false
set_option linter.unusedSimpArgs false
mutual
def impl_HeldInOrder.j0 : Nat → List (S41) → List Int → Bool → Option (Int)
 | 0, _, _, _ => none
 | k + 1, x0, x1, x17 => if x17 = true then (some 0) else ((impl_copyBank.f k x0).bind fun t1088 => (impl_HeldInOrder.l0 k x1 t1088 x1 (x1.length : Int) 0))
def impl_HeldInOrder.l0 : Nat → List Int → List (S41) → List Int → Int → Int → Option (Int)
 | 0, _, _, _, _, _ => none
 | k + 1, x1, x5, x20, x21, x22 => if x22 < x21 then (if 0 ≤ x22 then (if x22 < (x20.length : Int) then ((impl_bankGaps.f k x5).bind fun t1092 => ((impl_least.f k t1092 (rd x20 x22)).bind fun bt1095 => (if bt1095.2.2.2 = true then (if 0 ≤ bt1095.1 then (if bt1095.1 < (x5.length : Int) then ((impl_placed.f k ((rd_T41 x5 bt1095.1).f0) ((rd_T41 x5 bt1095.1).f1) ((rd_T41 x5 bt1095.1).f2) bt1095.1 bt1095.2.1 bt1095.2.2.1 (-1) (rd x20 x22)).bind fun bt1101 => (impl_HeldInOrder.l0 k x1 (x5.set (bt1095.1 : Int).toNat (⟨bt1101.1, bt1101.2.1, bt1101.2.2⟩ : S41)) x20 x21 (wrap64 (x22 + 1)))) else (none)) else (none)) else (some x22)))) else (none)) else (none)) else (some (x1.length : Int))
end
def impl_HeldInOrder.f (k : Nat) (l0 : List (S41)) (l1 : List Int) : Option (Int) := (impl_BankOk.f l0).bind fun t1086 => (if t1086 = true then ((impl_sizesOk.f k l1).bind fun t1087 => (impl_HeldInOrder.j0 k l0 l1 (!t1087))) else (impl_HeldInOrder.j0 k l0 l1 true))
def impl_HeldInOrder.T10 : Bool × List (List Nat × List Nat) := (true, [([], []), ([], []), ([1], [1]), ([], []), ([], []), ([4], [4]), ([3, 5], [3, 5]), ([6], [6]), ([], []), ([], []), ([7, 8, 9], [7, 8, 9]), ([0, 2, 0, 1, 2, 3, 4, 5, 6, 7, 8, 9, 10], [0, 2]), ([11, 10, 10, 0, 1, 2, 3, 4, 5, 6, 7, 8, 9, 10], [10, 11])])
def impl_HeldInOrder.B10 : List Nat := [0, 0, 2, 0, 0, 16, 56, 120, 0, 0, 1016, 2047, 4095]
theorem impl_HeldInOrder.tab10 : rtab .any (opsOf Try.f47 10) = impl_HeldInOrder.T10 := by kernel_rfl
theorem impl_HeldInOrder.bits10 : waitsOk impl_HeldInOrder.T10.2 impl_HeldInOrder.B10 = true := by kernel_rfl
set_option maxHeartbeats 8000000 in
set_option maxRecDepth 100000 in
theorem impl_HeldInOrder.calls (k : Nat) (A0 : Option Addr) (c0 : Nat) (l0 : List (S41)) (A1 : Option Addr) (c1 : Nat) (l1 : List Int) (r : Int) (w : World) (hr0 : Kd.C k41 w A0 l0.length l0) (hc0 : l0.length ≤ c0) (hr1 : Kd.C (Kd.int .i64) w A1 l1.length l1) (hc1 : l1.length ≤ c1) (h : impl_HeldInOrder.f k l0 l1 = some r) :
  Calls Try.prog 47 #[.slice A0 l0.length c0, .slice A1 l1.length c1] w fun e w' => e = .returned (.int .i64 r) ∧ Below w.heap.size w w' := by
 have hu50 := Try.underlying50
 have hu41 := Try.underlying41
 have HR0 := Aside0.mk hr0
 have HC0 := Aside0.mk hc0
 clear hr0 hc0
 have HR1 := Aside0.mk hr1
 have HC1 := Aside0.mk hc1
 clear hr1 hc1
 have HB := Aside0.mk (Below.refl w.heap.size w)
 have H : ((impl_BankOk.f l0).bind fun t1086 => (if t1086 = true then ((impl_sizesOk.f k l1).bind fun t1087 => (impl_HeldInOrder.j0 k l0 l1 (!t1087))) else (impl_HeldInOrder.j0 k l0 l1 true))) = some r := h
 clear h
 have HC3 := Aside0.mk H
 clear H
 go_enter Try.func47, Try.ntmps47
 go_upto_region 1 with (fail)
 go_cut [17] (fun v17 wc => ∃ (kq : Nat) (x17_2 : Bool), v17 = .bool x17_2 ∧ Aside0 (impl_HeldInOrder.j0 kq l0 l1 x17_2 = some r) ∧ Aside0 (kq ≤ k) ∧ Aside0 (Below w.heap.size w wc))
 case first =>
  have H := HC3.out
  clear HC3
  replace H := Option.bind_eq_some_iff.mp H
  obtain ⟨t1086, A40, H⟩ := H
  try dsimp only at H
  have A4 := Aside0.mk A40
  clear A40
  by_cases c5 : t1086 = true
  ·subst c5
   rw [if_pos rfl] at H
   replace H := Option.bind_eq_some_iff.mp H
   obtain ⟨t1087, A60, H⟩ := H
   try dsimp only at H
   have A6 := Aside0.mk A60
   clear A60
   have H' := Aside0.mk H
   clear H
   go_wp2_with (first | ((with_reducible refine gate_callee (f := 51) rfl ?_); refine goesL_ (some 11) rfl rfl Try.func51 (by kernel_rfl) rfl #[.slice A0 l0.length c0] rfl mapd ?_; (with_reducible refine (impl_BankOk.calls _ _ l0 true _ ?side1 ?side2 A4.out).mono ?_); (case side1 => exact cb (Kd.C_below HR0.out HB.out)); (case side2 => exact HC0.out); rintro e w7 ⟨rfl, hb⟩; refine ⟨_, rfl, ?_⟩; replace HB := Aside0.mk (below_step (bl HB.out) hb); (try clear hb); (try clear hb2); (try clear hk); (try clear hi)) | (go_at_call 100; (with_reducible refine (impl_sizesOk.calls k _ _ l1 t1087 _ ?side1 ?side2 A6.out).mono ?_); (case side1 => exact cb (Kd.C_below HR1.out HB.out)); (case side2 => exact HC1.out); rintro e w' ⟨rfl, ⟨nd, rfl⟩⟩))
   go_meet
   case rel => exact ⟨_, (!t1087), (by first | rfl | (simp; done) | (simp [*]; done)), H', ⟨by first | omega | exact Nat.le_refl _⟩, ⟨bl HB.out⟩⟩
  ·replace c5 := Bool.eq_false_iff.mpr c5
   subst c5
   rw [if_neg (show ¬ (false = true) by decide)] at H
   have H' := Aside0.mk H
   clear H
   go_wp2_with (first | ((with_reducible refine gate_callee (f := 51) rfl ?_); refine goesL_ (some 11) rfl rfl Try.func51 (by kernel_rfl) rfl #[.slice A0 l0.length c0] rfl mapd ?_; (with_reducible refine (impl_BankOk.calls _ _ l0 false _ ?side1 ?side2 A4.out).mono ?_); (case side1 => exact cb (Kd.C_below HR0.out HB.out)); (case side2 => exact HC0.out); rintro e w8 ⟨rfl, hb⟩; refine ⟨_, rfl, ?_⟩; replace HB := Aside0.mk (below_step (bl HB.out) hb); (try clear hb); (try clear hb2); (try clear hk); (try clear hi)))
   go_meet
   case rel => exact ⟨_, (true), (by first | rfl | (simp; done) | (simp [*]; done)), H', ⟨by first | omega | exact Nat.le_refl _⟩, ⟨bl HB.out⟩⟩
 case rest =>
  clear HC3
  try clear c1
  try clear p2
  try clear c4
  try clear c5
  obtain ⟨kq, x17_2, rfl, HA, HJ2, HB⟩ := hcut
  cases kq with
  | zero => exact absurd HA.out (by simp [impl_HeldInOrder.j0])
  | succ kj2 =>
   have H := HA.out
   clear HA
   simp only [impl_HeldInOrder.j0] at H
   by_cases c9 : x17_2 = true
   ·subst c9
    rw [if_pos rfl] at H
    obtain rfl := Option.some.inj H
    go_wp2
    go_ret
    exact ⟨by first | rfl | (simp [errW_none, errW_some] <;> rfl) | (simp [*, errW_none, errW_some] <;> rfl), bl HB.out⟩
   ·replace c9 := Bool.eq_false_iff.mpr c9
    subst c9
    rw [if_neg (show ¬ (false = true) by decide)] at H
    replace H := Option.bind_eq_some_iff.mp H
    obtain ⟨t1088, A100, H⟩ := H
    try dsimp only at H
    have A10 := Aside0.mk A100
    clear A100
    have H' := Aside0.mk H
    clear H
    go_wp2_with (first | ((with_reducible refine gate_callee (f := 72) rfl ?_); refine goesL_ (some 19) rfl rfl Try.func72 (by kernel_rfl) rfl #[.slice A0 l0.length c0] rfl mapd ?_; (with_reducible refine (impl_copyBank.calls kj2 _ _ l0 t1088 _ ?side1 ?side2 A10.out).mono ?_); (case side1 => exact cb (Kd.C_below HR0.out HB.out)); (case side2 => exact HC0.out); rintro e w11 ⟨v1089, rfl, ho0, hb⟩; refine ⟨_, rfl, ?_⟩; have HO1090 := Aside0.mk (Kd.N_lower (Kd.N_mono (ok' := fun k_ => True) (Kd.S_N (Kd.S_bound ho0)) (fun k_ hk_ => trivial)) (below_size (bl HB.out))); replace HB := Aside0.mk (below_step (bl HB.out) hb); (try clear hb); (try clear hb2); (try clear hk); (try clear hi); (try clear ho0)))
    go_loopg [22] kj2 (fun kq v22 w' => ∃ (x5_2 : List (S41)) (x22_2 : Int), v22 = .int .i64 x22_2 ∧ Aside0 (impl_HeldInOrder.l0 kq l1 x5_2 l1 (l1.length : Int) x22_2 = some r) ∧ Aside0 (kq ≤ kj2) ∧ Aside0 (Kd.N k41 41 w' w.heap.size (fun _ => True) v1089 x5_2) ∧ Aside0 (Below w.heap.size w w'))
    case atStart => exact ⟨(t1088), (0), (by first | rfl | (simp; done) | (simp [*]; done)), H', ⟨Nat.le_refl _⟩, ⟨by refine nk ?_; exact HO1090.out⟩, ⟨bl HB.out⟩⟩
    case round =>
     clear H'
     try clear c1
     try clear p2
     try clear c4
     try clear c5
     try clear c7
     try clear c9
     try clear p2
     obtain ⟨x5_2, x22_2, rfl, HA, HK2, HO_5, HB⟩ := hrel
     cases gk with
     | zero => exact absurd HA.out (by simp [impl_HeldInOrder.l0])
     | succ k2 =>
      have H := HA.out
      clear HA
      simp only [impl_HeldInOrder.l0] at H
      by_cases c12 : x22_2 < (l1.length : Int)
      ·rw [if_pos c12] at H
       have c12b0 : decide (x22_2 < (l1.length : Int)) = true := decide_eq_true c12
       clear c12
       by_cases c13 : 0 ≤ x22_2
       ·rw [if_pos c13] at H
        have c13b0 : decide (0 ≤ x22_2) = true := decide_eq_true c13
        clear c13
        by_cases c14 : x22_2 < (l1.length : Int)
        ·rw [if_pos c14] at H
         have c14b0 : decide (x22_2 < (l1.length : Int)) = true := decide_eq_true c14
         clear c14
         replace H := Option.bind_eq_some_iff.mp H
         obtain ⟨t1092, A150, H⟩ := H
         try dsimp only at H
         have A15 := Aside0.mk A150
         clear A150
         replace H := Option.bind_eq_some_iff.mp H
         obtain ⟨⟨t1095, t1096, t1097, t1098⟩, A160, H⟩ := H
         try dsimp only at H
         have A16 := Aside0.mk A160
         clear A160
         by_cases c17 : t1098 = true
         ·subst c17
          rw [if_pos rfl] at H
          by_cases c18 : 0 ≤ t1095
          ·rw [if_pos c18] at H
           have c18b0 : decide (0 ≤ t1095) = true := decide_eq_true c18
           clear c18
           by_cases c19 : t1095 < (x5_2.length : Int)
           ·rw [if_pos c19] at H
            have c19b0 : decide (t1095 < (x5_2.length : Int)) = true := decide_eq_true c19
            clear c19
            replace H := Option.bind_eq_some_iff.mp H
            obtain ⟨⟨t1101, t1102, t1105⟩, A200, H⟩ := H
            try dsimp only at H
            have A20 := Aside0.mk A200
            clear A200
            obtain ⟨y1108, hy1108⟩ : ∃ y_ : List (S41), y_ = (x5_2.set (t1095 : Int).toNat (⟨t1101, t1102, t1105⟩ : S41)) := ⟨_, rfl⟩
            replace H : (impl_HeldInOrder.l0 k2 l1 y1108 l1 (l1.length : Int) (wrap64 (x22_2 + 1))) = some r := by first | (rw [hy1108]; with_reducible exact H) | (have H2_ := (Option.bind_some _ _).symm.trans H; rw [hy1108]; with_reducible exact H2_) | (have H2_ := (Option.bind_some _ _).symm.trans H; with_reducible exact H2_) | with_reducible exact H | (rw [hy1108]; exact H) | exact H
            have Ny1108 := Aside0.mk hy1108
            clear hy1108
            have H' := Aside0.mk H
            clear H
            have p1091 : 0 ≤ (x22_2 : Int) := of_decide_eq_true asm
            have q1091 : x22_2 < (l1.length : Int) := of_decide_eq_true asm
            obtain ⟨ad1091, e1091, hx1091_0⟩ := Kd.at_int HR1.out x22_2 p1091 q1091
            cases e1091
            replace hx1091_0 := (HB.out.cell (World.block_lt_of_cell? w _ hx1091_0)).trans hx1091_0
            replace p1091 := eq_true p1091
            replace q1091 := eq_true q1091
            obtain ⟨Ao22, co22, eo22⟩ := Kd.N_slice HO_5.out
            subst eo22
            try go_wp2_with (first | ((with_reducible refine gate_callee (f := 67) rfl ?_); refine goesL_ (some 29) rfl rfl Try.func67 (by kernel_rfl) rfl #[.slice Ao22 x5_2.length co22] rfl mapd ?_; (with_reducible refine (impl_bankGaps.calls k2 _ _ x5_2 t1092 _ ?side1 ?side2 A15.out).mono ?_); (case side1 => exact cb ((Kd.N_reads' HO_5.out).2.2)); (case side2 => exact (Kd.N_reads' HO_5.out).2.1); rintro e w23 ⟨v1093, rfl, ho0, hb⟩; refine ⟨_, rfl, ?_⟩; replace HO_5 := Aside0.mk (Kd.N_elder' (nk HO_5.out) (Kd.R_base ho0) hb); have HO1094 := Aside0.mk (Kd.R_lower ho0 (below_size (bl HB.out))); replace HB := Aside0.mk (below_step (bl HB.out) hb); (try clear hb); (try clear hb2); (try clear hk); (try clear hi); (try clear ho0); obtain ⟨Ao24, co24, eo24⟩ := Kd.R_slice HO1094.out; subst eo24) | ((with_reducible refine gate_callee (f := 89) rfl ?_); refine goesL_ (some 31) rfl rfl Try.func89 (by kernel_rfl) rfl #[.slice Ao24 t1092.length co24, .int .i64 (rd l1 x22_2)] rfl mapd ?_; (with_reducible refine (impl_least.calls k2 _ _ t1092 (rd l1 x22_2) t1095 t1096 t1097 true _ ?side1 ?side2 A16.out).mono ?_); (case side1 => exact cb ((Kd.R_reads' HO1094.out).2.2)); (case side2 => exact (Kd.R_reads' HO1094.out).2.1); rintro e w25 ⟨rfl, hb⟩; refine ⟨_, rfl, ?_⟩; replace HO_5 := Aside0.mk (Kd.N_below (nk HO_5.out) hb); replace HO1094 := Aside0.mk (Kd.R_below (rk HO1094.out) hb); replace HB := Aside0.mk (below_step (bl HB.out) hb); (try clear hb); (try clear hb2); (try clear hk); (try clear hi)) | ((with_reducible refine gate_dst (N := 8) rfl ?_); refine bx (cs := #[.int .i64 0, .int .i64 0, .int .i64 0]) (t := 50) fun gb1099 hg w26 hbox hb => ?_; replace HO_5 := Aside0.mk (Kd.N_below (Kd.N_elderB (nk HO_5.out) gb1099 (Nat.le_of_eq hg.symm)) hb); replace HO1094 := Aside0.mk (Kd.R_below (Kd.R_elderB (rk HO1094.out) gb1099 (Nat.le_of_eq hg.symm)) hb); have BK1099 := Aside0.mk (hbox); have GW1099 := Aside0.mk (gs HB.out hg); have GE1099 := Aside0.mk (gs HB.out hg); replace HB := Aside0.mk (below_step (bl HB.out) hb); clear hb hbox hg; obtain ⟨hcz27_0, hcz27_1, hcz27_2, hfz27_0, hfz27_1, hfz27_2⟩ := cz3 BK1099.out))
            have n0_ : Aside0 (Kd.N k41 41 (((w26.setCell ⟨gb1099, 0, none⟩ (.int .i64 t1095)).setCell ⟨gb1099, 1, none⟩ (.int .i64 t1096)).setCell ⟨gb1099, 2, none⟩ (.int .i64 t1097)) w.heap.size (fun k_ => some k_ ≠ (.slice Ao24 t1092.length co24 : Value).ownBlock ∧ k_ ≠ gb1099) (.slice Ao22 x5_2.length co22) x5_2) := ⟨by refine nk ?_; exact Kd.N_mono (Kd.N_far (p := ⟨gb1099, 2, none⟩) (Kd.N_far (p := ⟨gb1099, 1, none⟩) (Kd.N_far (p := ⟨gb1099, 0, none⟩) (Kd.N_mono HO_5.out (fun k_ hk => (⟨hk, hk.2⟩ : _ ∧ k_ ≠ gb1099))) (fun _ hk => hk.2) (.int .i64 t1095)) (fun _ hk => hk.2) (.int .i64 t1096)) (fun _ hk => hk.2) (.int .i64 t1097)) (fun _ hk => ⟨hk.1.1.2, hk.1.2⟩)⟩
            have n1_ : Aside0 (Kd.R k50 50 (((w26.setCell ⟨gb1099, 0, none⟩ (.int .i64 t1095)).setCell ⟨gb1099, 1, none⟩ (.int .i64 t1096)).setCell ⟨gb1099, 2, none⟩ (.int .i64 t1097)) w.heap.size (fun k_ => k_ ≠ gb1099) (.slice Ao24 t1092.length co24) t1092) := ⟨by refine rk ?_; exact Kd.R_mono (Kd.R_far (p := ⟨gb1099, 2, none⟩) (Kd.R_far (p := ⟨gb1099, 1, none⟩) (Kd.R_far (p := ⟨gb1099, 0, none⟩) (Kd.R_mono HO1094.out (fun k_ hk => (⟨hk, hk.2⟩ : _ ∧ k_ ≠ gb1099))) (fun _ hk => hk.2) (.int .i64 t1095)) (fun _ hk => hk.2) (.int .i64 t1096)) (fun _ hk => hk.2) (.int .i64 t1097)) (fun _ hk => hk.1.2)⟩
            have n2_ : Aside0 ((((w26.setCell ⟨gb1099, 0, none⟩ (.int .i64 t1095)).setCell ⟨gb1099, 1, none⟩ (.int .i64 t1096)).setCell ⟨gb1099, 2, none⟩ (.int .i64 t1097)).heap[gb1099]? = some (.cells #[.int .i64 t1095, .int .i64 t1096, .int .i64 t1097] 50 (0, 0))) := ⟨by refine bk ?_; refine blk_put (cs := #[.int .i64 t1095, .int .i64 t1096, .int .i64 0]) ?_ 2 _ rfl; refine bk ?_; refine blk_put (cs := #[.int .i64 t1095, .int .i64 0, .int .i64 0]) ?_ 1 _ rfl; refine bk ?_; refine blk_put (cs := #[.int .i64 0, .int .i64 0, .int .i64 0]) ?_ 0 _ rfl; refine bk ?_; exact BK1099.out⟩
            have n3_ : Aside0 (Below w.heap.size w (((w26.setCell ⟨gb1099, 0, none⟩ (.int .i64 t1095)).setCell ⟨gb1099, 1, none⟩ (.int .i64 t1096)).setCell ⟨gb1099, 2, none⟩ (.int .i64 t1097))) := ⟨bl HB.out⟩
            (try clear HO_5)
            (try clear HO1094)
            (try clear BK1099)
            (try clear HB)
            generalize (((w26.setCell ⟨gb1099, 0, none⟩ (.int .i64 t1095)).setCell ⟨gb1099, 1, none⟩ (.int .i64 t1096)).setCell ⟨gb1099, 2, none⟩ (.int .i64 t1097)) = w28 at n0_ n1_ n2_ n3_ ⊢
            have HO_5 := n0_
            have HO1094 := n1_
            have BK1099 := n2_
            have HB := n3_
            clear n0_ n1_ n2_ n3_
            replace HO_5 := Aside0.mk (Kd.N_drew HO_5.out)
            replace HO1094 := Aside0.mk (Kd.R_drew HO1094.out)
            replace BK1099 := Aside0.mk (blk_drew BK1099.out)
            replace HB := Aside0.mk (below_drew1 HB.out)
            have p1100 : 0 ≤ (t1095 : Int) := of_decide_eq_true asm
            have q1100 : t1095 < (x5_2.length : Int) := of_decide_eq_true asm
            obtain ⟨ad1100, A1100_1, c1100_1, A1100_2, c1100_2, e1100, hx1100_0, hx1100_1, hx1100_2, hl1100_1, hi1100_1, hl1100_2, hi1100_2⟩ := at_T41 (Kd.N_reads' HO_5.out).2.2 t1095 p1100 q1100
            cases e1100
            obtain ⟨ce1100, hce1100, hMe1100, hcc1100⟩ := Kd.N_get HO_5.out z41 t1095 p1100 (by first | exact q1100 | exact of_decide_eq_true asm | (have e_ := (Kd.N_reads' HO_5.out).1; omega))
            obtain ⟨ua1100_1, uc1100_1, ua1100_2, uc1100_2, rfl, ul1100_1, ge1100_1, ul1100_2, ge1100_2⟩ := k41_openF hMe1100
            have hv1100_1 := hcc1100 1 _ rfl
            rw [add_field _ _ 1 (by omega)] at hv1100_1
            replace hv1100_1 := Option.some.inj (hv1100_1.symm.trans hx1100_1)
            injection hv1100_1 with hva_ hvn_ hvc_
            rw [hva_] at ge1100_1
            rw [hvc_] at ul1100_1
            have HL1100_1 := Aside0.mk (show Kd.V (Kd.int .i64) 3 _ w.heap.size _ _ ((rd_T41 x5_2 t1095).f1) from Kd.V_mk ul1100_1 ge1100_1)
            clear hva_ hvn_ hvc_ ge1100_1 ul1100_1
            have hv1100_2 := hcc1100 2 _ rfl
            rw [add_field _ _ 2 (by omega)] at hv1100_2
            replace hv1100_2 := Option.some.inj (hv1100_2.symm.trans hx1100_2)
            injection hv1100_2 with hva_ hvn_ hvc_
            rw [hva_] at ge1100_2
            rw [hvc_] at ul1100_2
            have HL1100_2 := Aside0.mk (show Kd.V k98 98 _ w.heap.size _ _ ((rd_T41 x5_2 t1095).f2) from Kd.V_mk ul1100_2 ge1100_2)
            clear hva_ hvn_ hvc_ ge1100_2 ul1100_2
            clear hcc1100 hce1100
            have HR1100_1 := Aside0.mk hi1100_1
            have HC1100_1 := Aside0.mk hl1100_1
            clear hi1100_1 hl1100_1
            have HR1100_2 := Aside0.mk hi1100_2
            have HC1100_2 := Aside0.mk hl1100_2
            clear hi1100_2 hl1100_2
            replace p1100 := eq_true p1100
            replace q1100 := eq_true q1100
            refine start_ (n := 13) (S := fun w' => w'.cell? ⟨gb1099, 0, none⟩ = some (.int .i64 t1095) ∧ w'.cell? ⟨gb1099, 1, none⟩ = some (.int .i64 t1096) ∧ w'.cell? ⟨gb1099, 2, none⟩ = some (.int .i64 t1097) ∧ w'.cell? (ad1100.add ((t1095).toNat * 3)) = some (.int .i64 ((rd_T41 x5_2 t1095).f0)) ∧ w'.cell? ⟨(ad1100.add ((t1095).toNat * 3)).block, (ad1100.add ((t1095).toNat * 3)).off + 1, none⟩ = some (.slice A1100_1 ((rd_T41 x5_2 t1095).f1).length c1100_1) ∧ w'.cell? ⟨(ad1100.add ((t1095).toNat * 3)).block, (ad1100.add ((t1095).toNat * 3)).off + 2, none⟩ = some (.slice A1100_2 ((rd_T41 x5_2 t1095).f2).length c1100_2)) (ds := [12]) #[false, false, false, false, false, false, false, false, false, false, false, false, false] (by kernel_rfl) rfl rfl ⟨(blk_cell BK1099.out 0).trans rfl, (blk_cell BK1099.out 1).trans rfl, (blk_cell BK1099.out 2).trans rfl, hx1100_0, hx1100_1, hx1100_2⟩ (fun hHeld => ?_); refine with_tabW impl_HeldInOrder.tab10 impl_HeldInOrder.bits10 (fun HT_ HW_ => ?_)
            generalize w28.drew = w29 at HO_5 HO1094 BK1099 HB HL1100_1 HL1100_2 HR1100_1 HR1100_2 hx1100_0 hx1100_1 hx1100_2 hHeld ⊢
            refine puA (i := 0) (N := some 37) HT_.out ?_
            refine puA (i := 1) (N := some 38) HT_.out ?_
            refine puA (i := 3) (N := some 40) HT_.out ?_
            refine puA (i := 4) (N := some 41) HT_.out ?_
            refine puA (i := 9) (N := some 46) HT_.out ?_
            refine tkA6 (i := 2) (N := some 39) HT_.out HW_.out hHeld ?_
            refine tkA6 (i := 5) (N := some 42) HT_.out HW_.out hHeld ?_
            refine puA (i := 6) (N := some 43) HT_.out ?_
            refine tkA6 (i := 7) (N := some 44) HT_.out HW_.out hHeld ?_
            refine tkA6 (i := 8) (N := some 45) HT_.out HW_.out hHeld ?_
            refine onA (i := 10) (N := some 47) HT_.out (fun K hK => ?_)
            refine goes_ Try.func82 (by kernel_rfl) rfl #[.agg #[.int .i64 ((rd_T41 x5_2 t1095).f0), .slice A1100_1 ((rd_T41 x5_2 t1095).f1).length c1100_1, .slice A1100_2 ((rd_T41 x5_2 t1095).f2).length c1100_2], .agg #[.int .i64 t1095, .int .i64 t1096, .int .i64 t1097], .int .i64 (-1), .int .i64 (rd l1 x22_2)] (by rfl) rfl rfl mapd ?_
            with_reducible refine (impl_placed.calls k2 ((rd_T41 x5_2 t1095).f0) _ _ ((rd_T41 x5_2 t1095).f1) _ _ ((rd_T41 x5_2 t1095).f2) t1095 t1096 t1097 (-1) (rd l1 x22_2) t1101 t1102 t1105 _ ?side1 ?side2 ?side3 ?side4 A20.out).mono ?_
            (case side1 => exact cb ((by repeat (first | (with_reducible exact HR1100_1.out) | (with_reducible refine Kd.C_alloc ?_ _) | (with_reducible refine Kd.C_drewN ?_ _) | (with_reducible refine Kd.C_drew ?_) | exact HR1100_1.out))))
            (case side2 => exact HC1100_1.out)
            (case side3 => exact cb ((by repeat (first | (with_reducible exact HR1100_2.out) | (with_reducible refine Kd.C_alloc ?_ _) | (with_reducible refine Kd.C_drewN ?_ _) | (with_reducible refine Kd.C_drew ?_) | exact HR1100_2.out))))
            (case side4 => exact HC1100_2.out)
            rintro e w30 ⟨v1103, v1106, rfl, ho0, ho1, hb⟩
            have HS3_ := (hb.cell (World.block_lt_of_cell? _ _ (hHeld.2.2.2.1))).trans (hHeld.2.2.2.1)
            have HS4_ := (hb.cell (World.block_lt_of_cell? _ _ (hHeld.2.2.2.2.1))).trans (hHeld.2.2.2.2.1)
            have HS5_ := (hb.cell (World.block_lt_of_cell? _ _ (hHeld.2.2.2.2.2))).trans (hHeld.2.2.2.2.2)
            refine ⟨_, rfl, ?_⟩
            replace HO_5 := Aside0.mk (Kd.N_mono (Kd.N_told (Kd.N_told (Kd.N_old (nk HO_5.out) hb) (Kd.R_base ho0)) (Kd.R_base ho1)) (fun _ h_ => h_.1))
            replace HO1094 := Aside0.mk (Kd.R_below (rk HO1094.out) hb)
            replace HL1100_1 := Aside0.mk (Kd.V_mono (Kd.V_told (Kd.V_told (Kd.V_old (by (with_reducible repeat (first | apply Kd.V_alloc | apply Kd.V_drewN | apply Kd.V_drew)); exact HL1100_1.out) hb) (Kd.R_base ho0)) (Kd.R_base ho1)) (fun _ h_ => h_.1))
            replace HL1100_2 := Aside0.mk (Kd.V_mono (Kd.V_told (Kd.V_told (Kd.V_old (by (with_reducible repeat (first | apply Kd.V_alloc | apply Kd.V_drewN | apply Kd.V_drew)); exact HL1100_2.out) hb) (Kd.R_base ho0)) (Kd.R_base ho1)) (fun _ h_ => h_.1))
            have HO1104 := Aside0.mk (Kd.R_lower ho0 (below_size (bl HB.out)))
            have HO1107 := Aside0.mk (Kd.R_lower ho1 (below_size (bl HB.out)))
            replace BK1099 := Aside0.mk (bb BK1099.out hb)
            replace HR1100_1 := Aside0.mk (Kd.C_below (by repeat (first | (with_reducible exact HR1100_1.out) | (with_reducible refine Kd.C_alloc ?_ _) | (with_reducible refine Kd.C_drewN ?_ _) | (with_reducible refine Kd.C_drew ?_) | exact HR1100_1.out)) hb)
            replace HR1100_2 := Aside0.mk (Kd.C_below (by repeat (first | (with_reducible exact HR1100_2.out) | (with_reducible refine Kd.C_alloc ?_ _) | (with_reducible refine Kd.C_drewN ?_ _) | (with_reducible refine Kd.C_drew ?_) | exact HR1100_2.out)) hb)
            replace HB := Aside0.mk (below_step (bl HB.out) hb)
            (try clear hb)
            (try clear hb2)
            (try clear hk)
            (try clear hi)
            (try clear ho0)
            (try clear ho1)
            obtain ⟨Ah1_, ch1_, eh1_⟩ := Kd.R_slice HO1104.out
            subst eh1_
            obtain ⟨Ah2_, ch2_, eh2_⟩ := Kd.R_slice HO1107.out
            subst eh2_
            have p21 : 0 ≤ (t1095 : Int) := of_decide_eq_true asm
            have q21 : (t1095 : Int) < ((x5_2.length : Int) : Int) := of_decide_eq_true asm
            obtain ⟨go21, co21, eo21, gb21, gl21, cl21, HG21⟩ := Kd.N_form HO_5.out (by omega)
            (first | cases eo21 | (injection eo21 with ea_ en_ ec_; (first | subst ea_ | (injection ea_ with ea_; subst ea_)); subst ec_; clear en_))
            have GB21 := Aside0.mk gb21
            have GG21 := Aside0.mk HG21
            clear gb21 gl21 HG21
            (first | simp only [add_plain] at hx1100_0 | skip)
            (first | simp only [add_plain] at hx1100_1 | skip)
            (first | simp only [add_plain] at hx1100_2 | skip)
            obtain ⟨ce21, hcl21, hM21, hcc21, hfr21⟩ := Kd.N_elem HO_5.out z41 (t1095 : Int) p21 q21
            obtain ⟨ua21_1, uc21_1, ua21_2, uc21_2, rfl, ul21_1, ge21_1, ul21_2, ge21_2⟩ := k41_openF hM21
            have hx21_0 : World.cell? _ ⟨go21, (t1095 : Int).toNat * 3, none⟩ = some (.int .i64 ((rd_T41 x5_2 t1095).f0)) := hcc21 0 _ rfl
            have hx21_1 : World.cell? _ ⟨go21, (t1095 : Int).toNat * 3 + 1, none⟩ = some (.slice ua21_1 ((rd_T41 x5_2 t1095).f1).length uc21_1) := hcc21 1 _ rfl
            have hx21_2 : World.cell? _ ⟨go21, (t1095 : Int).toNat * 3 + 2, none⟩ = some (.slice ua21_2 ((rd_T41 x5_2 t1095).f2).length uc21_2) := hcc21 2 _ rfl
            have hf21_0 : World.frozen? _ ⟨go21, (t1095 : Int).toNat * 3, none⟩ = false := hfr21 0
            have hf21_1 : World.frozen? _ ⟨go21, (t1095 : Int).toNat * 3 + 1, none⟩ = false := hfr21 1
            have hf21_2 : World.frozen? _ ⟨go21, (t1095 : Int).toNat * 3 + 2, none⟩ = false := hfr21 2
            clear hcl21 hcc21 hfr21 hM21
            replace p21 := eq_true p21
            replace q21 := eq_true q21
            have HX31 := Aside0.mk (show Kd.N k41 41 _ w.heap.size (fun k_ => some k_ ≠ (.slice Ao24 t1092.length co24 : Value).ownBlock ∧ some k_ ≠ (.slice Ah1_ t1102.length ch1_ : Value).ownBlock ∧ some k_ ≠ (.slice Ah2_ t1105.length ch2_ : Value).ownBlock ∧ k_ ≠ gb1099) (.slice (some ⟨go21, 0, none⟩) x5_2.length co22) x5_2 from (Kd.N_mono (HO_5.out) (fun k_ hk => ⟨hk.1.1.1, ⟨hk.1.2, ⟨hk.2, hk.1.1.2⟩⟩⟩)))
            replace HX31 := Aside0.mk (show Kd.N k41 41 _ w.heap.size (fun k_ => some k_ ≠ (.slice Ao24 t1092.length co24 : Value).ownBlock ∧ k_ ≠ gb1099) (.slice (some ⟨go21, 0, none⟩) x5_2.length co22) x5_2 from Kd.N_mono HX31.out (fun k_ hk => ⟨hk.1, hk.2.2.2⟩))
            obtain ⟨ce31, hcl31, hM31, hcc31, hfr31⟩ := Kd.N_elem HX31.out z41 (t1095 : Int) (of_decide_eq_true asm) (by have h_ : (t1095 : Int) < ((x5_2.length : Int) : Int) := of_decide_eq_true asm; first | exact h_ | (have e_ := (Kd.N_reads' HO_5.out).1; omega) | simpa using h_)
            obtain ⟨ua31_1, uc31_1, ua31_2, uc31_2, rfl, ul31_1, ge31_1, ul31_2, ge31_2⟩ := k41_openF hM31
            have th1_ := (Kd.R_types (Kd.R_apart' (Kd.R_apart' (HO1104.out) (Kd.R_typed HO1094.out) (by decide)) (Kd.N_typed HO_5.out) (by decide)) BK1099.out (by decide))
            have th2_ := (Kd.R_types (Kd.R_apart' (Kd.R_apart' (HO1107.out) (Kd.R_typed HO1094.out) (by decide)) (Kd.N_typed HO_5.out) (by decide)) BK1099.out (by decide))
            have HP31 := (Kd.N_seg HX31.out (t1095 : Int) (of_decide_eq_true asm) (by have h_ : (t1095 : Int) < ((x5_2.length : Int) : Int) := of_decide_eq_true asm; first | exact h_ | (have e_ := (Kd.N_reads' HO_5.out).1; omega) | simpa using h_) (seg := [.int .i64 t1101, (.slice Ah1_ t1102.length ch1_ : Value), (.slice Ah2_ t1105.length ch2_ : Value)]) (j := 0) hcl31 hcc31 (show 3 ≤ 3 from by decide) (x' := (⟨t1101, t1102, t1105⟩ : S41)) (k41_mkF _ _ (⟨t1101, t1102, t1105⟩ : S41) (Kd.R_reads' (Kd.R_mono (ok' := (fun k_ => ((fun k_ => some k_ ≠ (.slice Ao24 t1092.length co24 : Value).ownBlock ∧ k_ ≠ gb1099)) k_ ∧ k_ ≠ go21)) th1_ (fun k_ hk => ⟨⟨hk.1.1.2, hk.2⟩, fun e_ => (hk.1.2) (by rw [e_]; rfl)⟩))).2.1 (Kd.R_F (Kd.R_mono (ok' := (fun k_ => ((fun k_ => some k_ ≠ (.slice Ao24 t1092.length co24 : Value).ownBlock ∧ k_ ≠ gb1099)) k_ ∧ k_ ≠ go21)) th1_ (fun k_ hk => ⟨⟨hk.1.1.2, hk.2⟩, fun e_ => (hk.1.2) (by rw [e_]; rfl)⟩))) (Kd.R_reads' (Kd.R_mono (ok' := (fun k_ => ((fun k_ => some k_ ≠ (.slice Ao24 t1092.length co24 : Value).ownBlock ∧ k_ ≠ gb1099)) k_ ∧ k_ ≠ go21)) th2_ (fun k_ hk => ⟨⟨hk.1.1.2, hk.2⟩, fun e_ => (hk.1.2) (by rw [e_]; rfl)⟩))).2.1 (Kd.R_F (Kd.R_mono (ok' := (fun k_ => ((fun k_ => some k_ ≠ (.slice Ao24 t1092.length co24 : Value).ownBlock ∧ k_ ≠ gb1099)) k_ ∧ k_ ≠ go21)) th2_ (fun k_ hk => ⟨⟨hk.1.1.2, hk.2⟩, fun e_ => (hk.1.2) (by rw [e_]; rfl)⟩)))) (fun _ hk => hk)).1
            clear th1_ th2_
            rw [← Ny1108.out] at HP31
            have HQ31 := Aside0.mk HP31
            clear hcl31 hcc31 hfr31 hM31 HP31
            refine hK.out _ _ ⟨(blk_cell BK1099.out 0).trans rfl, (blk_cell BK1099.out 1).trans rfl, (blk_cell BK1099.out 2).trans rfl, HS3_, HS4_, HS5_⟩ (fun hHeld => ?_)
            clear hK K
            refine norm_ (a' := ?_) ?_ ?_
            rotate_left
            ·show Act.put _ (some 47) _ = _
             simp only [Act.put, List.setIfInBounds_toArray, List.set_cons_zero, List.set_cons_succ, i64_w, i32_w]
             rfl
            refine puA (i := 11) (N := some 48) HT_.out ?_
            refine last_ (i := 12) (N := none) #[true, true, true, true, true, true, true, true, true, true, true, true, true] rfl rfl (one_of HT_.out (by kernel_rfl)) (by decide) (fun K hK => ?_)
            refine skip_ (w1 := ?_) (by rfl) rfl ?_ ?_
            rotate_left
            ·go_simp
             rfl
            refine hK.out _ _ ?_
            clear hK K
            refine done_ (done_of HT_.out (by kernel_rfl)) ?_
            try go_wp2
            go_roundg k2
            case measure => have := HJ2.out; have := HK2.out; omega
            case rel => exact ⟨(y1108), (wrap64 (x22_2 + 1)), (by first | rfl | (simp; done) | (simp [*]; done)), H', ⟨by have := HJ2.out; have := HK2.out; omega⟩, ⟨by refine nk ?_; exact Kd.N_mono HQ31.out (fun _ hk => trivial)⟩, ⟨by repeat (first | (with_reducible first | exact HB.out | apply below_alloc | apply pw_below_drewN | apply below_drew1 | refine below_set ?_ GB21.out | refine below_set ?_ GB21.out | refine below_set ?_ GB21.out | refine below_set ?_ GE1099.out) | exact HB.out)⟩⟩
           ·rw [if_neg c19] at H
            exact absurd H (by simp)
          ·rw [if_neg c18] at H
           exact absurd H (by simp)
         ·replace c17 := Bool.eq_false_iff.mpr c17
          subst c17
          rw [if_neg (show ¬ (false = true) by decide)] at H
          obtain rfl := Option.some.inj H
          have p1091 : 0 ≤ (x22_2 : Int) := of_decide_eq_true asm
          have q1091 : x22_2 < (l1.length : Int) := of_decide_eq_true asm
          obtain ⟨ad1091, e1091, hx1091_0⟩ := Kd.at_int HR1.out x22_2 p1091 q1091
          cases e1091
          replace hx1091_0 := (HB.out.cell (World.block_lt_of_cell? w _ hx1091_0)).trans hx1091_0
          replace p1091 := eq_true p1091
          replace q1091 := eq_true q1091
          obtain ⟨Ao32, co32, eo32⟩ := Kd.N_slice HO_5.out
          subst eo32
          go_wp2_with (first | ((with_reducible refine gate_callee (f := 67) rfl ?_); refine goesL_ (some 29) rfl rfl Try.func67 (by kernel_rfl) rfl #[.slice Ao32 x5_2.length co32] rfl mapd ?_; (with_reducible refine (impl_bankGaps.calls k2 _ _ x5_2 t1092 _ ?side1 ?side2 A15.out).mono ?_); (case side1 => exact cb ((Kd.N_reads' HO_5.out).2.2)); (case side2 => exact (Kd.N_reads' HO_5.out).2.1); rintro e w33 ⟨v1093, rfl, ho0, hb⟩; refine ⟨_, rfl, ?_⟩; replace HO_5 := Aside0.mk (Kd.N_elder' (nk HO_5.out) (Kd.R_base ho0) hb); have HO1094 := Aside0.mk (Kd.R_lower ho0 (below_size (bl HB.out))); replace HB := Aside0.mk (below_step (bl HB.out) hb); (try clear hb); (try clear hb2); (try clear hk); (try clear hi); (try clear ho0); obtain ⟨Ao34, co34, eo34⟩ := Kd.R_slice HO1094.out; subst eo34) | ((with_reducible refine gate_callee (f := 89) rfl ?_); refine goesL_ (some 31) rfl rfl Try.func89 (by kernel_rfl) rfl #[.slice Ao34 t1092.length co34, .int .i64 (rd l1 x22_2)] rfl mapd ?_; (with_reducible refine (impl_least.calls k2 _ _ t1092 (rd l1 x22_2) t1095 t1096 t1097 false _ ?side1 ?side2 A16.out).mono ?_); (case side1 => exact cb ((Kd.R_reads' HO1094.out).2.2)); (case side2 => exact (Kd.R_reads' HO1094.out).2.1); rintro e w35 ⟨rfl, hb⟩; refine ⟨_, rfl, ?_⟩; replace HO_5 := Aside0.mk (Kd.N_below (nk HO_5.out) hb); replace HO1094 := Aside0.mk (Kd.R_below (rk HO1094.out) hb); replace HB := Aside0.mk (below_step (bl HB.out) hb); (try clear hb); (try clear hb2); (try clear hk); (try clear hi)) | ((with_reducible refine gate_dst (N := 8) rfl ?_); refine bx (cs := #[.int .i64 0, .int .i64 0, .int .i64 0]) (t := 50) fun gb1099 hg w36 hbox hb => ?_; replace HO_5 := Aside0.mk (Kd.N_below (Kd.N_elderB (nk HO_5.out) gb1099 (Nat.le_of_eq hg.symm)) hb); replace HO1094 := Aside0.mk (Kd.R_below (Kd.R_elderB (rk HO1094.out) gb1099 (Nat.le_of_eq hg.symm)) hb); have BK1099 := Aside0.mk (hbox); have GW1099 := Aside0.mk (gs HB.out hg); have GE1099 := Aside0.mk (gs HB.out hg); replace HB := Aside0.mk (below_step (bl HB.out) hb); clear hb hbox hg; obtain ⟨hcz37_0, hcz37_1, hcz37_2, hfz37_0, hfz37_1, hfz37_2⟩ := cz3 BK1099.out))
          go_ret
          exact ⟨by first | rfl | (simp [errW_none, errW_some] <;> rfl) | (simp [*, errW_none, errW_some] <;> rfl), bl HB.out⟩
        ·rw [if_neg c14] at H
         exact absurd H (by simp)
       ·rw [if_neg c13] at H
        exact absurd H (by simp)
      ·rw [if_neg c12] at H
       have c12b0 : decide (x22_2 < (l1.length : Int)) = false := decide_eq_false c12
       clear c12
       obtain rfl := Option.some.inj H
       go_wp2
       go_ret
       exact ⟨by first | rfl | (simp [errW_none, errW_some] <;> rfl) | (simp [*, errW_none, errW_some] <;> rfl), bl HB.out⟩
end Go.Proofs.Ytbpjidekjogfeaa.A

namespace Go.Proofs.Ytbpjidekjogfeaa.A
open Go.RowKit Go.Proofs.YtbpjidekjogfeaaW.PrintWords Go.Proofs.YtbpjidekjogfeaaW.PrintLast Go.Proofs.YtbpjidekjogfeaaW.PrintMore
attribute [local go_sem] max2_int min2_int max_two min_two max_three min_three max_four min_four   
set_option linter.unusedVariables false
set_option linter.unusedSimpArgs false
def laws_FnExactHeldInOrder.f (k : Nat) (l0 : List (S58)) (l1 : List Int) : Option (Bool) := if (l1.length : Int) > 1048576 then (some true) else ((laws_szColumnS.f k l0 1048576).bind fun t1109 => (if t1109 < 0 then (some true) else ((laws_toColumnS.f k l0).bind fun t1110 => ((laws_toIntS.f k l1).bind fun t1113 => ((spec_HeldInOrder.f k t1110 t1113).bind fun t1116 => ((laws_toColumnS.f k l0).bind fun t1117 => ((laws_toIntS.f k l1).bind fun t1120 => ((impl_HeldInOrder.f k t1117 t1120).bind fun t1123 => (if t1123 = t1116 then ((laws_toColumnS.f k l0).bind fun t1124 => ((laws_eqColumnS.f k t1117 t1124).bind fun t1127 => (if t1127 = true then ((laws_toIntS.f k l1).bind fun t1128 => ((laws_eqIntS.f k t1120 t1128).bind fun t1131 => (if t1131 = true then (some true) else (some false)))) else (some false)))) else (some false))))))))))
set_option maxHeartbeats 8000000 in
set_option maxRecDepth 100000 in
theorem laws_FnExactHeldInOrder.calls (k : Nat) (A0 : Option Addr) (c0 : Nat) (l0 : List (S58)) (A1 : Option Addr) (c1 : Nat) (l1 : List Int) (r : Bool) (w : World) (hr0 : Kd.C k58 w A0 l0.length l0) (hc0 : l0.length ≤ c0) (hr1 : Kd.C (Kd.int .i64) w A1 l1.length l1) (hc1 : l1.length ≤ c1) (hr_ : Aside0 (r = true)) (h : laws_FnExactHeldInOrder.f k l0 l1 = some r) :
  Calls Try.prog 8 #[.slice A0 l0.length c0, .slice A1 l1.length c1] w fun e w' => e = .returned (.bool r) ∧ Below w.heap.size w w' := by
 have HR0 := Aside0.mk hr0
 have HC0 := Aside0.mk hc0
 clear hr0 hc0
 have HR1 := Aside0.mk hr1
 have HC1 := Aside0.mk hc1
 clear hr1 hc1
 have HB := Aside0.mk (Below.refl w.heap.size w)
 have H : (if (l1.length : Int) > 1048576 then (some true) else ((laws_szColumnS.f k l0 1048576).bind fun t1109 => (if t1109 < 0 then (some true) else ((laws_toColumnS.f k l0).bind fun t1110 => ((laws_toIntS.f k l1).bind fun t1113 => ((spec_HeldInOrder.f k t1110 t1113).bind fun t1116 => ((laws_toColumnS.f k l0).bind fun t1117 => ((laws_toIntS.f k l1).bind fun t1120 => ((impl_HeldInOrder.f k t1117 t1120).bind fun t1123 => (if t1123 = t1116 then ((laws_toColumnS.f k l0).bind fun t1124 => ((laws_eqColumnS.f k t1117 t1124).bind fun t1127 => (if t1127 = true then ((laws_toIntS.f k l1).bind fun t1128 => ((laws_eqIntS.f k t1120 t1128).bind fun t1131 => (if t1131 = true then (some true) else (some false)))) else (some false)))) else (some false))))))))))) = some r := h
 clear h
 by_cases c3 : (l1.length : Int) > 1048576
 ·rw [if_pos c3] at H
  have c3b0 : decide (1048576 < (l1.length : Int)) = true := decide_eq_true c3
  have c3b1 : decide (1048576 < l1.length) = true := decide_eq_true (by omega)
  clear c3
  obtain rfl := Option.some.inj H
  go_enter Try.func8, Try.ntmps8
  go_wp2
  go_ret
  exact ⟨by first | rfl | (simp [errW_none, errW_some] <;> rfl) | (simp [*, errW_none, errW_some] <;> rfl), bl HB.out⟩
 ·rw [if_neg c3] at H
  have c3b0 : decide (1048576 < (l1.length : Int)) = false := decide_eq_false c3
  have c3b1 : decide (1048576 < l1.length) = false := decide_eq_false (by omega)
  clear c3
  replace H := Option.bind_eq_some_iff.mp H
  obtain ⟨t1109, A40, H⟩ := H
  try dsimp only at H
  have A4 := Aside0.mk A40
  clear A40
  by_cases c5 : t1109 < 0
  ·rw [if_pos c5] at H
   have c5b0 : decide (t1109 < 0) = true := decide_eq_true c5
   clear c5
   obtain rfl := Option.some.inj H
   go_enter Try.func8, Try.ntmps8
   go_wp2_with (first | ((with_reducible refine gate_callee (f := 15) rfl ?_); refine goesL_ (some 15) rfl rfl Try.func15 (by kernel_rfl) rfl #[.slice A0 l0.length c0, .int .i64 1048576] rfl mapd ?_; (with_reducible refine (laws_szColumnS.calls k _ _ l0 1048576 t1109 _ ?side1 ?side2 A4.out).mono ?_); (case side1 => repeat (first | exact HR0.out | (with_reducible refine Kd.C_alloc ?_ _) | (with_reducible refine Kd.C_drewN ?_ _) | (with_reducible refine Kd.C_drew ?_))); (case side2 => exact HC0.out); rintro e w6 ⟨rfl, hb⟩; refine ⟨_, rfl, ?_⟩; replace HB := Aside0.mk (below_step (bl HB.out) hb); (try clear hb); (try clear hb2); (try clear hk); (try clear hi)))
   go_ret
   exact ⟨by first | rfl | (simp [errW_none, errW_some] <;> rfl) | (simp [*, errW_none, errW_some] <;> rfl), bl HB.out⟩
  ·rw [if_neg c5] at H
   have c5b0 : decide (t1109 < 0) = false := decide_eq_false c5
   clear c5
   replace H := Option.bind_eq_some_iff.mp H
   obtain ⟨t1110, A70, H⟩ := H
   try dsimp only at H
   have A7 := Aside0.mk A70
   clear A70
   replace H := Option.bind_eq_some_iff.mp H
   obtain ⟨t1113, A80, H⟩ := H
   try dsimp only at H
   have A8 := Aside0.mk A80
   clear A80
   replace H := Option.bind_eq_some_iff.mp H
   obtain ⟨t1116, A90, H⟩ := H
   try dsimp only at H
   have A9 := Aside0.mk A90
   clear A90
   replace H := Option.bind_eq_some_iff.mp H
   obtain ⟨t1117, A100, H⟩ := H
   try dsimp only at H
   have A10 := Aside0.mk A100
   clear A100
   replace H := Option.bind_eq_some_iff.mp H
   obtain ⟨t1120, A110, H⟩ := H
   try dsimp only at H
   have A11 := Aside0.mk A110
   clear A110
   replace H := Option.bind_eq_some_iff.mp H
   obtain ⟨t1123, A120, H⟩ := H
   try dsimp only at H
   have A12 := Aside0.mk A120
   clear A120
   by_cases c13 : t1123 = t1116
   ·rw [if_pos c13] at H
    have c13b0 : (t1123 == t1116) = true := beq_iff_eq.mpr c13
    have c13b1 : (t1123 != t1116) = false := bne_eq_false_iff_eq.mpr c13
    clear c13
    replace H := Option.bind_eq_some_iff.mp H
    obtain ⟨t1124, A140, H⟩ := H
    try dsimp only at H
    have A14 := Aside0.mk A140
    clear A140
    replace H := Option.bind_eq_some_iff.mp H
    obtain ⟨t1127, A150, H⟩ := H
    try dsimp only at H
    have A15 := Aside0.mk A150
    clear A150
    by_cases c16 : t1127 = true
    ·subst c16
     rw [if_pos rfl] at H
     replace H := Option.bind_eq_some_iff.mp H
     obtain ⟨t1128, A170, H⟩ := H
     try dsimp only at H
     have A17 := Aside0.mk A170
     clear A170
     replace H := Option.bind_eq_some_iff.mp H
     obtain ⟨t1131, A180, H⟩ := H
     try dsimp only at H
     have A18 := Aside0.mk A180
     clear A180
     by_cases c19 : t1131 = true
     ·subst c19
      rw [if_pos rfl] at H
      obtain rfl := Option.some.inj H
      go_enter Try.func8, Try.ntmps8
      go_wp2_with (first | ((with_reducible refine gate_callee (f := 15) rfl ?_); refine goesL_ (some 15) rfl rfl Try.func15 (by kernel_rfl) rfl #[.slice A0 l0.length c0, .int .i64 1048576] rfl mapd ?_; (with_reducible refine (laws_szColumnS.calls k _ _ l0 1048576 t1109 _ ?side1 ?side2 A4.out).mono ?_); (case side1 => repeat (first | exact HR0.out | (with_reducible refine Kd.C_alloc ?_ _) | (with_reducible refine Kd.C_drewN ?_ _) | (with_reducible refine Kd.C_drew ?_))); (case side2 => exact HC0.out); rintro e w20 ⟨rfl, hb⟩; refine ⟨_, rfl, ?_⟩; replace HB := Aside0.mk (below_step (bl HB.out) hb); (try clear hb); (try clear hb2); (try clear hk); (try clear hi)) | ((with_reducible refine gate_callee (f := 17) rfl ?_); refine goesL_ (some 19) rfl rfl Try.func17 (by kernel_rfl) rfl #[.slice A0 l0.length c0] rfl mapd ?_; (with_reducible refine (laws_toColumnS.calls k _ _ l0 t1110 _ ?side1 ?side2 A7.out).mono ?_); (case side1 => exact cb (Kd.C_below HR0.out HB.out)); (case side2 => exact HC0.out); rintro e w21 ⟨v1111, rfl, ho0, hb⟩; refine ⟨_, rfl, ?_⟩; have HO1112 := Aside0.mk (Kd.S_lower ho0 (below_size (bl HB.out))); replace HB := Aside0.mk (below_step (bl HB.out) hb); (try clear hb); (try clear hb2); (try clear hk); (try clear hi); (try clear ho0)) | ((with_reducible refine gate_callee (f := 43) rfl ?_); refine goesL_ (some 21) rfl rfl Try.func43 (by kernel_rfl) rfl #[.slice A1 l1.length c1] rfl mapd ?_; (with_reducible refine (laws_toIntS.calls k _ _ l1 t1113 _ ?side1 ?side2 A8.out).mono ?_); (case side1 => exact cb (Kd.C_below HR1.out HB.out)); (case side2 => exact HC1.out); rintro e w22 ⟨v1114, rfl, ho0, hb⟩; refine ⟨_, rfl, ?_⟩; replace HO1112 := Aside0.mk (Kd.S_elder' (by (with_reducible repeat (first | apply Kd.S_alloc | apply Kd.S_drewN | apply Kd.S_drew)); exact HO1112.out) (Kd.R_base ho0) hb); have HO1115 := Aside0.mk (Kd.R_lower ho0 (below_size (bl HB.out))); replace HB := Aside0.mk (below_step (bl HB.out) hb); (try clear hb); (try clear hb2); (try clear hk); (try clear hi); (try clear ho0); obtain ⟨Ao23, co23, eo23⟩ := Kd.S_slice HO1112.out; subst eo23; obtain ⟨Ao24, co24, eo24⟩ := Kd.R_slice HO1115.out; subst eo24) | ((with_reducible refine gate_callee (f := 46) rfl ?_); refine goesL_ (some 22) rfl rfl Try.func46 (by kernel_rfl) rfl #[.slice Ao23 t1110.length co23, .slice Ao24 t1113.length co24] rfl mapd ?_; (with_reducible refine (spec_HeldInOrder.calls k _ _ t1110 _ _ t1113 t1116 _ ?side1 ?side2 ?side3 ?side4 A9.out).mono ?_); (case side1 => exact cb ((Kd.S_reads' HO1112.out).2.2)); (case side2 => exact (Kd.S_reads' HO1112.out).2.1); (case side3 => exact cb ((Kd.R_reads' HO1115.out).2.2)); (case side4 => exact (Kd.R_reads' HO1115.out).2.1); rintro e w25 ⟨rfl, hb⟩; refine ⟨_, rfl, ?_⟩; replace HO1112 := Aside0.mk (Kd.S_below (by (with_reducible repeat (first | apply Kd.S_alloc | apply Kd.S_drewN | apply Kd.S_drew)); exact HO1112.out) hb); replace HO1115 := Aside0.mk (Kd.R_below (rk HO1115.out) hb); replace HB := Aside0.mk (below_step (bl HB.out) hb); (try clear hb); (try clear hb2); (try clear hk); (try clear hi)) | ((with_reducible refine gate_callee (f := 17) rfl ?_); refine goesL_ (some 24) rfl rfl Try.func17 (by kernel_rfl) rfl #[.slice A0 l0.length c0] rfl mapd ?_; (with_reducible refine (laws_toColumnS.calls k _ _ l0 t1117 _ ?side1 ?side2 A10.out).mono ?_); (case side1 => exact cb (Kd.C_below HR0.out HB.out)); (case side2 => exact HC0.out); rintro e w26 ⟨v1118, rfl, ho0, hb⟩; refine ⟨_, rfl, ?_⟩; have HO1119 := Aside0.mk (Kd.S_lower (Kd.S_new' (Kd.S_new' ho0 (Kd.S_lt (by (with_reducible repeat (first | apply Kd.S_alloc | apply Kd.S_drewN | apply Kd.S_drew)); exact HO1112.out))) (Kd.R_lt (rk HO1115.out))) (below_size (bl HB.out))); replace HO1112 := Aside0.mk (Kd.S_elder' (by (with_reducible repeat (first | apply Kd.S_alloc | apply Kd.S_drewN | apply Kd.S_drew)); exact HO1112.out) (Kd.S_base ho0) hb); replace HO1115 := Aside0.mk (Kd.R_below (rk HO1115.out) hb); replace HB := Aside0.mk (below_step (bl HB.out) hb); (try clear hb); (try clear hb2); (try clear hk); (try clear hi); (try clear ho0)) | ((with_reducible refine gate_callee (f := 43) rfl ?_); refine goesL_ (some 26) rfl rfl Try.func43 (by kernel_rfl) rfl #[.slice A1 l1.length c1] rfl mapd ?_; (with_reducible refine (laws_toIntS.calls k _ _ l1 t1120 _ ?side1 ?side2 A11.out).mono ?_); (case side1 => exact cb (Kd.C_below HR1.out HB.out)); (case side2 => exact HC1.out); rintro e w27 ⟨v1121, rfl, ho0, hb⟩; refine ⟨_, rfl, ?_⟩; replace HO1112 := Aside0.mk (Kd.S_elder' (by (with_reducible repeat (first | apply Kd.S_alloc | apply Kd.S_drewN | apply Kd.S_drew)); exact HO1112.out) (Kd.R_base ho0) hb); replace HO1119 := Aside0.mk (Kd.S_elder' (by (with_reducible repeat (first | apply Kd.S_alloc | apply Kd.S_drewN | apply Kd.S_drew)); exact HO1119.out) (Kd.R_base ho0) hb); have HO1122 := Aside0.mk (Kd.R_lower (Kd.R_new' ho0 (Kd.R_lt (rk HO1115.out))) (below_size (bl HB.out))); replace HO1115 := Aside0.mk (Kd.R_elder' (rk HO1115.out) (Kd.R_base ho0) hb); replace HB := Aside0.mk (below_step (bl HB.out) hb); (try clear hb); (try clear hb2); (try clear hk); (try clear hi); (try clear ho0); obtain ⟨Ao28, co28, eo28⟩ := Kd.S_slice HO1119.out; subst eo28; obtain ⟨Ao29, co29, eo29⟩ := Kd.R_slice HO1122.out; subst eo29) | ((with_reducible refine gate_callee (f := 47) rfl ?_); refine goesL_ (some 29) rfl rfl Try.func47 (by kernel_rfl) rfl #[.slice Ao28 t1117.length co28, .slice Ao29 t1120.length co29] rfl mapd ?_; (with_reducible refine (impl_HeldInOrder.calls k _ _ t1117 _ _ t1120 t1123 _ ?side1 ?side2 ?side3 ?side4 A12.out).mono ?_); (case side1 => exact cb ((Kd.S_reads' HO1119.out).2.2)); (case side2 => exact (Kd.S_reads' HO1119.out).2.1); (case side3 => exact cb ((Kd.R_reads' HO1122.out).2.2)); (case side4 => exact (Kd.R_reads' HO1122.out).2.1); rintro e w30 ⟨rfl, hb⟩; refine ⟨_, rfl, ?_⟩; replace HO1112 := Aside0.mk (Kd.S_below (by (with_reducible repeat (first | apply Kd.S_alloc | apply Kd.S_drewN | apply Kd.S_drew)); exact HO1112.out) hb); replace HO1115 := Aside0.mk (Kd.R_below (rk HO1115.out) hb); replace HO1119 := Aside0.mk (Kd.S_below (by (with_reducible repeat (first | apply Kd.S_alloc | apply Kd.S_drewN | apply Kd.S_drew)); exact HO1119.out) hb); replace HO1122 := Aside0.mk (Kd.R_below (rk HO1122.out) hb); replace HB := Aside0.mk (below_step (bl HB.out) hb); (try clear hb); (try clear hb2); (try clear hk); (try clear hi)) | ((with_reducible refine gate_callee (f := 17) rfl ?_); refine goesL_ (some 35) rfl rfl Try.func17 (by kernel_rfl) rfl #[.slice A0 l0.length c0] rfl mapd ?_; (with_reducible refine (laws_toColumnS.calls k _ _ l0 t1124 _ ?side1 ?side2 A14.out).mono ?_); (case side1 => exact cb (Kd.C_below HR0.out HB.out)); (case side2 => exact HC0.out); rintro e w31 ⟨v1125, rfl, ho0, hb⟩; refine ⟨_, rfl, ?_⟩; have HO1126 := Aside0.mk (Kd.S_lower (Kd.S_new' (Kd.S_new' (Kd.S_new' (Kd.S_new' ho0 (Kd.S_lt (by (with_reducible repeat (first | apply Kd.S_alloc | apply Kd.S_drewN | apply Kd.S_drew)); exact HO1112.out))) (Kd.R_lt (rk HO1115.out))) (Kd.S_lt (by (with_reducible repeat (first | apply Kd.S_alloc | apply Kd.S_drewN | apply Kd.S_drew)); exact HO1119.out))) (Kd.R_lt (rk HO1122.out))) (below_size (bl HB.out))); replace HO1112 := Aside0.mk (Kd.S_elder' (by (with_reducible repeat (first | apply Kd.S_alloc | apply Kd.S_drewN | apply Kd.S_drew)); exact HO1112.out) (Kd.S_base ho0) hb); replace HO1115 := Aside0.mk (Kd.R_below (rk HO1115.out) hb); replace HO1119 := Aside0.mk (Kd.S_elder' (by (with_reducible repeat (first | apply Kd.S_alloc | apply Kd.S_drewN | apply Kd.S_drew)); exact HO1119.out) (Kd.S_base ho0) hb); replace HO1122 := Aside0.mk (Kd.R_below (rk HO1122.out) hb); replace HB := Aside0.mk (below_step (bl HB.out) hb); (try clear hb); (try clear hb2); (try clear hk); (try clear hi); (try clear ho0); obtain ⟨Ao32, co32, eo32⟩ := Kd.S_slice HO1126.out; subst eo32) | ((with_reducible refine gate_callee (f := 20) rfl ?_); refine goesL_ (some 36) rfl rfl Try.func20 (by kernel_rfl) rfl #[.slice Ao28 t1117.length co28, .slice Ao32 t1124.length co32] rfl mapd ?_; (with_reducible refine (laws_eqColumnS.calls k _ _ t1117 _ _ t1124 true _ ?side1 ?side2 ?side3 ?side4 A15.out).mono ?_); (case side1 => exact cb ((Kd.S_reads' HO1119.out).2.2)); (case side2 => exact (Kd.S_reads' HO1119.out).2.1); (case side3 => exact cb ((Kd.S_reads' HO1126.out).2.2)); (case side4 => exact (Kd.S_reads' HO1126.out).2.1); rintro e w33 ⟨rfl, hb⟩; refine ⟨_, rfl, ?_⟩; replace HO1112 := Aside0.mk (Kd.S_below (by (with_reducible repeat (first | apply Kd.S_alloc | apply Kd.S_drewN | apply Kd.S_drew)); exact HO1112.out) hb); replace HO1115 := Aside0.mk (Kd.R_below (rk HO1115.out) hb); replace HO1119 := Aside0.mk (Kd.S_below (by (with_reducible repeat (first | apply Kd.S_alloc | apply Kd.S_drewN | apply Kd.S_drew)); exact HO1119.out) hb); replace HO1122 := Aside0.mk (Kd.R_below (rk HO1122.out) hb); replace HO1126 := Aside0.mk (Kd.S_below (by (with_reducible repeat (first | apply Kd.S_alloc | apply Kd.S_drewN | apply Kd.S_drew)); exact HO1126.out) hb); replace HB := Aside0.mk (below_step (bl HB.out) hb); (try clear hb); (try clear hb2); (try clear hk); (try clear hi)) | ((with_reducible refine gate_callee (f := 43) rfl ?_); refine goesL_ (some 40) rfl rfl Try.func43 (by kernel_rfl) rfl #[.slice A1 l1.length c1] rfl mapd ?_; (with_reducible refine (laws_toIntS.calls k _ _ l1 t1128 _ ?side1 ?side2 A17.out).mono ?_); (case side1 => exact cb (Kd.C_below HR1.out HB.out)); (case side2 => exact HC1.out); rintro e w34 ⟨v1129, rfl, ho0, hb⟩; refine ⟨_, rfl, ?_⟩; replace HO1112 := Aside0.mk (Kd.S_elder' (by (with_reducible repeat (first | apply Kd.S_alloc | apply Kd.S_drewN | apply Kd.S_drew)); exact HO1112.out) (Kd.R_base ho0) hb); replace HO1119 := Aside0.mk (Kd.S_elder' (by (with_reducible repeat (first | apply Kd.S_alloc | apply Kd.S_drewN | apply Kd.S_drew)); exact HO1119.out) (Kd.R_base ho0) hb); replace HO1126 := Aside0.mk (Kd.S_elder' (by (with_reducible repeat (first | apply Kd.S_alloc | apply Kd.S_drewN | apply Kd.S_drew)); exact HO1126.out) (Kd.R_base ho0) hb); have HO1130 := Aside0.mk (Kd.R_lower (Kd.R_new' (Kd.R_new' ho0 (Kd.R_lt (rk HO1115.out))) (Kd.R_lt (rk HO1122.out))) (below_size (bl HB.out))); replace HO1115 := Aside0.mk (Kd.R_elder' (rk HO1115.out) (Kd.R_base ho0) hb); replace HO1122 := Aside0.mk (Kd.R_elder' (rk HO1122.out) (Kd.R_base ho0) hb); replace HB := Aside0.mk (below_step (bl HB.out) hb); (try clear hb); (try clear hb2); (try clear hk); (try clear hi); (try clear ho0); obtain ⟨Ao35, co35, eo35⟩ := Kd.R_slice HO1130.out; subst eo35) | ((with_reducible refine gate_callee (f := 45) rfl ?_); refine goesL_ (some 41) rfl rfl Try.func45 (by kernel_rfl) rfl #[.slice Ao29 t1120.length co29, .slice Ao35 t1128.length co35] rfl mapd ?_; (with_reducible refine (laws_eqIntS.calls k _ _ t1120 _ _ t1128 true _ ?side1 ?side2 ?side3 ?side4 A18.out).mono ?_); (case side1 => exact cb ((Kd.R_reads' HO1122.out).2.2)); (case side2 => exact (Kd.R_reads' HO1122.out).2.1); (case side3 => exact cb ((Kd.R_reads' HO1130.out).2.2)); (case side4 => exact (Kd.R_reads' HO1130.out).2.1); rintro e w' ⟨rfl, ⟨nd, rfl⟩⟩; refine ⟨_, rfl, ?_⟩))
      go_ret
      exact ⟨by first | rfl | (simp [errW_none, errW_some] <;> rfl) | (simp [*, errW_none, errW_some] <;> rfl), bl HB.out⟩
     ·replace c19 := Bool.eq_false_iff.mpr c19
      subst c19
      rw [if_neg (show ¬ (false = true) by decide)] at H
      exact absurd (Option.some.inj H) (by rw [hr_.out]; decide)
    ·replace c16 := Bool.eq_false_iff.mpr c16
     subst c16
     rw [if_neg (show ¬ (false = true) by decide)] at H
     exact absurd (Option.some.inj H) (by rw [hr_.out]; decide)
   ·rw [if_neg c13] at H
    have c13b0 : (t1123 == t1116) = false := beq_eq_false_iff_ne.mpr c13
    have c13b1 : (t1123 != t1116) = true := bne_iff_ne.mpr c13
    exact absurd (Option.some.inj H) (by rw [hr_.out]; decide)
end Go.Proofs.Ytbpjidekjogfeaa.A

namespace Go.Proofs.Ytbpjidekjogfeaa.A
open Go.ChangeShapes Go.WideShapes Go.ChangeAt Go.RowKit Go.Proofs.YtbpjidekjogfeaaW.PrintWords Go.Proofs.YtbpjidekjogfeaaW.PrintLast
set_option linter.unusedVariables false
set_option linter.unusedSimpArgs false
def Opn {α : Type} (P : Program) (t : TypeId) (d : Kd α) (ok : α → Prop) : Prop :=
 ∀ {H : Type} {enc : TypeId × Value → H} (w : World) (fuel : Nat) (cs : List Value) (x : DataW H × List MemPlace),
  DataW.trod enc P w 0 (fun _ => true) true fuel t cs = some x → ∃ a, d.K w a cs ∧ ok a
theorem opn_int {P : Program} {t : TypeId} {k : IntKind} (ht : P.underlying t = some (.int k)) : Opn P t (Kd.int k) (fun a => (Lit.int k a).wf = true) := by
 intro H enc w fuel cs x h
 obtain ⟨n, rfl, _, hw⟩ := DataW.trod_int ht h
 exact ⟨n, rfl, hw⟩
theorem opn_bool {P : Program} {t : TypeId} (ht : P.underlying t = some .bool) : Opn P t Kd.bool (fun _ => True) := by
 intro H enc w fuel cs x h
 obtain ⟨b, rfl, _⟩ := DataW.trod_bool ht h
 exact ⟨b, rfl, trivial⟩
theorem add_add_ (a : Addr) (i j : Nat) : (a.add i).add j = a.add (i + j) := by
 unfold Addr.add
 by_cases hi : i = 0
 ·subst hi; simp
 ·by_cases hj : j = 0
  ·subst hj; simp
  ·rw [if_neg hi, if_neg hj, if_neg (by omega)]
   simp; omega
theorem cells_at {w : World} {base : Nat} {a : Addr} {n : Nat} {cs : List Value} (h : w.cells? base a n = some cs) : cs.length = n ∧ ∀ i u, cs[i]? = some u → w.cell? (a.add i) = some u := by
 unfold World.cells? at h
 split at h
 ·have l := mapM_some_length h
  simp only [List.length_range] at l
  refine ⟨l, fun i u hu => ?_⟩
  have hi := (List.getElem?_eq_some_iff.1 hu).1
  have := mapM_some_get h i i (by simp [show i < n by omega])
  rw [this]; exact hu
 ·cases h
theorem choose_list {α : Type} {Q : Nat → α → Prop} (m : Nat) (h : ∀ i, i < m → ∃ v, Q i v) : ∃ l : List α, l.length = m ∧ ∀ i v, l[i]? = some v → Q i v := by
 induction m with
 | zero => exact ⟨[], rfl, fun i v hv => by simp at hv⟩
 | succ m ih =>
  obtain ⟨l, hl, hq⟩ := ih (fun i hi => h i (by omega))
  obtain ⟨v, hv⟩ := h m (by omega)
  refine ⟨l ++ [v], by simp [hl], fun i u hu => ?_⟩
  rcases Nat.lt_trichotomy i m with hi | hi | hi
  ·rw [List.getElem?_append_left (by omega)] at hu
   exact hq i u hu
  ·subst hi
   rw [List.getElem?_append_right (by omega), hl, Nat.sub_self] at hu
   have : v = u := by simpa using hu
   exact this ▸ hv
  ·rw [List.getElem?_eq_none (by simp; omega)] at hu
   cases hu
theorem opn_slice {α : Type} {P : Program} {t e : TypeId} {d : Kd α} {ok : α → Prop} (ht : P.underlying t = some (.slice e)) (hs : P.cellsOf e = d.sz) (ho : Opn P e d ok) :
  Opn P t (Kd.slice e d) (fun l => l.length ≤ maxLen ∧ ∀ x ∈ l, ok x) := by
 intro H enc w fuel cs x h
 rcases DataW.trod_slice ht h with ⟨rfl, _⟩ | ⟨a, len, cap, elems, rest, n, _, rfl, _, _, hl, hm, hlen, hel, _, _⟩
 ·exact ⟨[], ⟨none, 0, rfl, Nat.le_refl _, rfl, Nat.zero_le _, fun h => absurd h (by simp)⟩, by simp, by simp⟩
 ·have each : ∀ i, i < len → ∃ v, ok v ∧ ∃ c, c.length = d.sz ∧ d.K w v c ∧ ∀ j u, c[j]? = some u → w.cell? (a.add (i * d.sz + j)) = some u := by
   intro i hi
   have h1 := hel i hi
   rw [List.getElem?_eq_getElem (by omega)] at h1
   obtain ⟨c, hc, hr⟩ := Option.bind_eq_some_iff.1 h1
   obtain ⟨v, hk, hv⟩ := ho w n c _ hr
   obtain ⟨_, hcell⟩ := cells_at hc
   refine ⟨v, hv, c, d.K_len hk, hk, fun j u hu => ?_⟩
   have := hcell j u hu
   rw [hs, add_add_] at this
   exact this
  obtain ⟨l, hll, hq⟩ := choose_list len each
  subst hll
  have hm' : l.length ≤ maxLen := Nat.le_trans hl hm
  refine ⟨l, ⟨some a, cap, rfl, hl, rfl, by unfold maxLen at hm'; omega, fun _ => ⟨a, rfl, fun j p hp => ?_⟩⟩, hm', fun v hv => ?_⟩
  ·obtain ⟨_, c, h1, h2, h3⟩ := hq j p hp
   exact ⟨c, h1, h2, h3⟩
  ·obtain ⟨i, hi, rfl⟩ := List.getElem_of_mem hv
   exact (hq i _ (List.getElem?_eq_getElem hi)).1
theorem opn_top {α : Type} {H : Type} {enc : TypeId × Value → H} {P : Program} {w : World} {t : TypeId} {d : Kd α} {ok : α → Prop} {v : Value} {x : DataW H} {ps : List MemPlace} (ho : Opn P t d ok)
  (h : DataW.Trod enc P w 0 (fun _ => true) true t v x ps) : ∃ a, d.K w a v.cells.toList ∧ ok a := by
 obtain ⟨fuel, hf⟩ := h
 exact ho w fuel _ _ hf
theorem slice_eq {a b : Option Addr} {l m c q : Nat} (h : (Value.slice a l c).cells.toList = [.slice b m q]) : a = b ∧ l = m ∧ c = q := by
 simpa [Value.cells] using h
abbrev ok3 (a : Int) : Prop := (Lit.int .i64 a).wf = true
abbrev ok38 (l : List Int) : Prop := l.length ≤ maxLen ∧ ∀ x ∈ l, ok3 x
abbrev ok4 (_ : Bool) : Prop := True
abbrev ok123 (x : S123) : Prop := ok3 x.f0 ∧ ok3 x.f1 ∧ ok3 x.f2 ∧ ok4 x.f3
abbrev ok56 (l : List (S123)) : Prop := l.length ≤ maxLen ∧ ∀ x ∈ l, ok123 x
abbrev ok58 (x : S58) : Prop := ok3 x.f0 ∧ ok38 x.f1 ∧ ok56 x.f2
abbrev ok22 (l : List (S58)) : Prop := l.length ≤ maxLen ∧ ∀ x ∈ l, ok58 x
theorem op3 : Opn Try.prog 3 (Kd.int .i64) ok3 := opn_int Try.underlying3
theorem op38 : Opn Try.prog 38 (Kd.slice 3 (Kd.int .i64)) ok38 := opn_slice Try.underlying38 (by kernel_rfl) op3
theorem op4 : Opn Try.prog 4 Kd.bool ok4 := opn_bool Try.underlying4
set_option maxRecDepth 100000 in
theorem op123 : Opn Try.prog 123 k123 ok123 := by
 intro H enc w fuel cs x h
 obtain ⟨xs, n, _, _, hl, hlen, hf⟩ := DataW.trod_struct Try.underlying123 h
 have hl' : cs.length = 4 := hl.trans (by kernel_rfl)
 match cs, hl' with
 | [c0, c1, c2, c3], _ =>
  match xs, hlen with
  | [y0, y1, y2, y3], _ =>
  obtain ⟨a0, q0, z0⟩ := op3 (H := H) (enc := enc) w n [c0] y0 (hf 0 _ rfl)
  obtain ⟨a1, q1, z1⟩ := op3 (H := H) (enc := enc) w n [c1] y1 (hf 1 _ rfl)
  obtain ⟨a2, q2, z2⟩ := op3 (H := H) (enc := enc) w n [c2] y2 (hf 2 _ rfl)
  obtain ⟨a3, q3, z3⟩ := op4 (H := H) (enc := enc) w n [c3] y3 (hf 3 _ rfl)
  exact ⟨⟨a0, a1, a2, a3⟩, ⟨[c0], [c1, c2, c3], rfl, q0, ⟨[c1], [c2, c3], rfl, q1, ⟨[c2], [c3], rfl, q2, q3⟩⟩⟩, ⟨z0, z1, z2, z3⟩⟩
theorem op56 : Opn Try.prog 56 (Kd.slice 123 k123) ok56 := opn_slice Try.underlying56 (by kernel_rfl) op123
set_option maxRecDepth 100000 in
theorem op58 : Opn Try.prog 58 k58 ok58 := by
 intro H enc w fuel cs x h
 obtain ⟨xs, n, _, _, hl, hlen, hf⟩ := DataW.trod_struct Try.underlying58 h
 have hl' : cs.length = 3 := hl.trans (by kernel_rfl)
 match cs, hl' with
 | [c0, c1, c2], _ =>
  match xs, hlen with
  | [y0, y1, y2], _ =>
  obtain ⟨a0, q0, z0⟩ := op3 (H := H) (enc := enc) w n [c0] y0 (hf 0 _ rfl)
  obtain ⟨a1, q1, z1⟩ := op38 (H := H) (enc := enc) w n [c1] y1 (hf 1 _ rfl)
  obtain ⟨a2, q2, z2⟩ := op56 (H := H) (enc := enc) w n [c2] y2 (hf 2 _ rfl)
  exact ⟨⟨a0, a1, a2⟩, ⟨[c0], [c1, c2], rfl, q0, ⟨[c1], [c2], rfl, q1, q2⟩⟩, ⟨z0, z1, z2⟩⟩
theorem op22 : Opn Try.prog 22 (Kd.slice 58 k58) ok22 := opn_slice Try.underlying22 (by kernel_rfl) op58
end Go.Proofs.Ytbpjidekjogfeaa.A

namespace Go.Proofs.Ytbpjidekjogfeaa.A
open Go.RowKit Go.Proofs.YtbpjidekjogfeaaW.PrintWords Go.Proofs.YtbpjidekjogfeaaW.PrintLast Go.Proofs.YtbpjidekjogfeaaW.PrintMore
set_option linter.unusedVariables false
set_option linter.unusedSimpArgs false
def Ev {α : Type} (F : Nat → Option α) (r : α) : Prop := ∃ K, ∀ k, K ≤ k → F k = some r
theorem Ev.mk {α : Type} {F : Nat → Option α} {r : α} (K : Nat) (h : ∀ k, K < k → F k = some r) : Ev F r := ⟨K + 1, fun k hk => h k hk⟩
theorem Ev.get {α : Type} {F : Nat → Option α} {r : α} (h : Ev F r) : ∃ k, F k = some r := by
 obtain ⟨K, h⟩ := h
 exact ⟨K, h K (Nat.le_refl _)⟩
theorem Ev.const {α : Type} {o : Option α} {r : α} (h : o = some r) : Ev (fun _ => o) r := ⟨0, fun _ _ => h⟩
theorem Ev.ret {α : Type} (r : α) : Ev (fun _ => some r) r := ⟨0, fun _ _ => rfl⟩
theorem Ev.bind {α β : Type} {F : Nat → Option α} {G : Nat → α → Option β} {a : α} {b : β} (h1 : Ev F a) (h2 : Ev (fun k => G k a) b) : Ev (fun k => (F k).bind (G k)) b := by
 obtain ⟨K1, h1⟩ := h1
 obtain ⟨K2, h2⟩ := h2
 refine ⟨max K1 K2, fun k hk => ?_⟩
 show (F k).bind (G k) = some b
 rw [h1 k (by omega)]
 exact h2 k (by omega)
theorem Ev.pos {α : Type} {c : Prop} [Decidable c] {A B : Nat → Option α} {r : α} (h : c) (hA : Ev A r) : Ev (fun k => if c then A k else B k) r := by
 obtain ⟨K, hA⟩ := hA
 exact ⟨K, fun k hk => by show (if c then A k else B k) = some r; rw [if_pos h]; exact hA k hk⟩
theorem Ev.neg {α : Type} {c : Prop} [Decidable c] {A B : Nat → Option α} {r : α} (h : ¬ c) (hB : Ev B r) : Ev (fun k => if c then A k else B k) r := by
 obtain ⟨K, hB⟩ := hB
 exact ⟨K, fun k hk => by show (if c then A k else B k) = some r; rw [if_neg h]; exact hB k hk⟩
theorem Ev.ite {α : Type} {c : Prop} [Decidable c] {A B : Nat → Option α} {a b : α} (hA : c → Ev A a) (hB : ¬ c → Ev B b) : Ev (fun k => if c then A k else B k) (if c then a else b) := by
 by_cases h : c
 ·rw [if_pos h]; exact Ev.pos h (hA h)
 ·rw [if_neg h]; exact Ev.neg h (hB h)
theorem Ev.succ {α : Type} {F : Nat → Option α} {r : α} (h : Ev (fun k => F (k + 1)) r) : Ev F r := by
 obtain ⟨K, h⟩ := h
 refine ⟨K + 1, fun k hk => ?_⟩
 obtain ⟨m, rfl⟩ : ∃ m, k = m + 1 := ⟨k - 1, by omega⟩
 exact h m (by omega)
theorem Ev.of_eq {α : Type} {F G : Nat → Option α} {r : α} (h : Ev F r) (e : ∀ k, G k = F k) : Ev G r := by
 obtain ⟨K, h⟩ := h
 exact ⟨K, fun k hk => (e k).trans (h k hk)⟩
theorem Ev.to {α : Type} {F : Nat → Option α} {r s : α} (h : Ev F r) (e : r = s) : Ev F s := e ▸ h
theorem getD_gen {α : Type} {l : List α} {i : Nat} (d : α) (h : i < l.length) : l.getD i d = l[i] := by
 rw [List.getD_eq_getElem?_getD, List.getElem?_eq_getElem h]; rfl
theorem wsucc (i : Nat) (h : i < 9223372036854775807) : wrap64 ((i : Int) + 1) = ((i + 1 : Nat) : Int) := by unfold wrap64; omega
theorem wpred (i : Nat) (h : 0 < i) (h2 : i ≤ 9223372036854775807) : wrap64 ((i : Int) - 1) = ((i - 1 : Nat) : Int) := by unfold wrap64; omega
theorem wid (x : Int) (h : -9223372036854775808 ≤ x) (h2 : x ≤ 9223372036854775807) : wrap64 x = x := by unfold wrap64; omega
theorem all_loop {L : Nat → Int → Option Bool} {n : Nat} {P : Nat → Bool} (h : ∀ k i, i < n → L (k + 1) (i : Int) = if P i = true then L k ((i + 1 : Nat) : Int) else some false)
  (he : ∀ k, L (k + 1) (n : Int) = some true) (d : Nat) : ∀ k i, i + d = n → d < k → L k (i : Int) = some ((List.range' i d).all P) := by
 induction d with
 | zero =>
  intro k i hi hk
  obtain ⟨k, rfl⟩ : ∃ m, k = m + 1 := ⟨k - 1, by omega⟩
  obtain rfl : i = n := by omega
  rw [he]; rfl
 | succ d ih =>
  intro k i hi hk
  obtain ⟨k, rfl⟩ : ∃ m, k = m + 1 := ⟨k - 1, by omega⟩
  rw [h k i (by omega), List.range'_succ, List.all_cons]
  by_cases hp : P i = true
  ·rw [if_pos hp, ih k (i + 1) (by omega) (by omega), hp, Bool.true_and]
  ·rw [if_neg hp]
   have : P i = false := by simpa using hp
   rw [this, Bool.false_and]
theorem map_loop {α β : Type} {L : Nat → List β → Int → Option (List β)} {xs : List α} {g : α → β} (d0 : α)
  (h : ∀ k acc (i : Nat), i < xs.length → acc.length = xs.length → L (k + 1) acc (i : Int) = L k (acc.set i (g (xs.getD i d0))) ((i + 1 : Nat) : Int))
  (he : ∀ k acc, L (k + 1) acc (xs.length : Int) = some acc) (d : Nat) :
  ∀ k acc i, i + d = xs.length → d < k → acc.length = xs.length → (∀ j, j < i → acc[j]? = (xs.map g)[j]?) → L k acc (i : Int) = some (xs.map g) := by
 induction d with
 | zero =>
  intro k acc i hi hk hl hp
  obtain ⟨k, rfl⟩ : ∃ m, k = m + 1 := ⟨k - 1, by omega⟩
  obtain rfl : i = xs.length := by omega
  rw [he]
  congr 1
  apply List.ext_getElem?
  intro j
  by_cases hj : j < xs.length
  ·exact hp j hj
  ·rw [List.getElem?_eq_none (by omega), List.getElem?_eq_none (by simp; omega)]
 | succ d ih =>
  intro k acc i hi hk hl hp
  obtain ⟨k, rfl⟩ : ∃ m, k = m + 1 := ⟨k - 1, by omega⟩
  rw [h k acc i (by omega) hl]
  refine ih k _ (i + 1) (by omega) (by omega) (by simp [hl]) (fun j hj => ?_)
  by_cases e : i = j
  ·subst e
   rw [List.getElem?_set_self (by omega), List.getElem?_map, List.getElem?_eq_getElem (show i < xs.length by omega), List.getD_eq_getElem?_getD, List.getElem?_eq_getElem (show i < xs.length by omega)]
   rfl
  ·rw [List.getElem?_set_ne e]
   exact hp j (by omega)
theorem in_eq (a b c : Int) : spec_l01In.f a b c = some (decide (b ≤ a ∧ a ≤ c)) := by
 unfold spec_l01In.f
 split
 ·congr 1; rw [decide_eq_decide]; omega
 ·congr 1; exact (decide_eq_false (by omega)).symm
def boxS : List S98 → Int → List Int → Option Int
 | [], low, _ => some low
 | b :: bs, low, ps => if b.f0 = low ∧ (1 ≤ b.f1 ∧ b.f1 ≤ 24) ∧ (0 ≤ b.f2 ∧ b.f2 ≤ 999) ∧ ¬ (0 < b.f2 ∧ b.f2 ∈ ps) ∧ low + b.f1 ≤ 24 then boxS bs (low + b.f1) (b.f2 :: ps) else none
def boxesS (h : Int) (bx : List S98) (o : Option Int) : Bool := match o with | none => false | some low => decide (bx ≠ []) && decide (low = h)
theorem boxes_in (h : Int) (fx : List Int) (bx : List S98) (at_ : Int) (i : Nat) (hi : i < bx.length) (hi2 : i ≤ 24) (b : S98) (P : Prop) [Decidable P] (hP : P ↔ (0 < b.f2 ∧ ∃ j, j < i ∧ (bx.getD j z98).f2 = b.f2)) (d : Nat) :
  ∀ (k j : Nat), j + d = i → d < k → (∀ m, m < j → 0 < b.f2 → (bx.getD m z98).f2 ≠ b.f2) → spec_l02Boxes.l1 k at_ (i : Int) (j : Int) h fx bx b.f0 b.f1 b.f2 b.f3 = if P then some false else (if (wrap64 (at_ + b.f1)) > 24 then (some false) else (spec_l02Boxes.l0 (k - d - 1) (wrap64 (at_ + b.f1)) ((i + 1 : Nat) : Int) h fx bx)) := by
 induction d with
 | zero =>
  intro k j hj hk hn
  obtain ⟨k, rfl⟩ : ∃ m, k = m + 1 := ⟨k - 1, by omega⟩
  simp only [spec_l02Boxes.l1]
  have hnp : ¬ P := fun hp => by obtain ⟨h0, m, hm, e⟩ := hP.mp hp; exact hn m (by omega) h0 e
  rw [if_neg (by omega), if_neg hnp, wsucc i (by omega)]
  rfl
 | succ d ih =>
  intro k j hj hk hn
  obtain ⟨k, rfl⟩ : ∃ m, k = m + 1 := ⟨k - 1, by omega⟩
  simp only [spec_l02Boxes.l1]
  have er : rd_T98 bx (j : Int) = bx.getD j z98 := rfl
  rw [if_pos (by omega), er, wsucc j (by omega)]
  by_cases c0 : b.f2 > 0
  ·rw [if_pos c0, if_pos (by omega), if_pos (by omega)]
   by_cases c1 : (bx.getD j z98).f2 = b.f2
   ·rw [if_pos c1, if_pos (hP.mpr ⟨c0, j, by omega, c1⟩)]
   ·rw [if_neg c1, ih k (j + 1) (by omega) (by omega) (fun m hm h0 => by
     by_cases e : m = j
     ·subst e; exact c1
     ·exact hn m (by omega) h0), show k + 1 - (d + 1) - 1 = k - d - 1 by omega]
  ·rw [if_neg c0, ih k (j + 1) (by omega) (by omega) (fun m hm h0 => absurd h0 c0), show k + 1 - (d + 1) - 1 = k - d - 1 by omega]
theorem drop_cons {α : Type} (l : List α) (d : α) (i : Nat) (hi : i < l.length) : l.drop i = l.getD i d :: l.drop (i + 1) := by
 rw [List.drop_eq_getElem_cons hi, getD_gen d hi]
theorem boxes_loop (h : Int) (fx : List Int) (bx : List S98) (hl : bx.length ≤ 140737488351232) : ∀ (d k i : Nat) (at_ : Int) (ps : List Int), (24 - at_).toNat = d → 0 ≤ at_ → at_ ≤ 24 → (i : Int) ≤ at_ → i ≤ bx.length → (d + 2) * 40 < k →
  (∀ x, x ∈ ps ↔ ∃ j, j < i ∧ (bx.getD j z98).f2 = x) → spec_l02Boxes.l0 k at_ (i : Int) h fx bx = some (boxesS h bx (boxS (bx.drop i) at_ ps)) := by
 intro d
 induction d using Nat.strongRecOn with
 | _ d ih =>
 intro k i at_ ps hd h0 h1 hi hil hk hps
 obtain ⟨k, rfl⟩ : ∃ m, k = m + 2 := ⟨k - 2, by omega⟩
 simp only [spec_l02Boxes.l0]
 by_cases c : i < bx.length
 ·have er : rd_T98 bx (i : Int) = bx.getD i z98 := rfl
  rw [if_pos (by omega), if_pos (by omega), drop_cons bx z98 i c, er]
  simp only [in_eq, Option.bind_some, boxS]
  generalize hb : bx.getD i z98 = b
  by_cases c0 : b.f0 = at_
  ·rw [if_pos c0]
   by_cases c1 : 1 ≤ b.f1 ∧ b.f1 ≤ 24
   ·rw [if_pos (decide_eq_true c1)]
    by_cases c2 : 0 ≤ b.f2 ∧ b.f2 ≤ 999
    ·simp only [decide_eq_true c2, spec_l02Boxes.j1, Bool.not_true]
     rw [if_neg (by simp)]
     have hin := boxes_in h fx bx at_ i c (by omega) b (0 < b.f2 ∧ b.f2 ∈ ps) (by rw [hps]) i k 0 (by omega) (by omega) (fun m hm => by omega)
     refine hin.trans ?_
     by_cases c3 : 0 < b.f2 ∧ b.f2 ∈ ps
     ·rw [if_pos c3, if_neg (fun h => h.2.2.2.1 c3)]; rfl
     ·rw [if_neg c3, wid (at_ + b.f1) (by omega) (by omega)]
      by_cases c4 : at_ + b.f1 > 24
      ·rw [if_pos c4, if_neg (fun h => by have := h.2.2.2.2; omega)]; rfl
      ·rw [if_neg c4, if_pos ⟨c0, c1, c2, c3, by omega⟩]
       refine ih (24 - (at_ + b.f1)).toNat (by omega) _ (i + 1) (at_ + b.f1) (b.f2 :: ps) rfl (by omega) (by omega) (by omega) (by omega) (by omega) (fun x => ?_)
       rw [List.mem_cons, hps]
       constructor
       ·rintro (rfl | ⟨j, hj, e⟩)
        ·exact ⟨i, by omega, by rw [hb]⟩
        ·exact ⟨j, by omega, e⟩
       ·rintro ⟨j, hj, e⟩
        by_cases ej : j = i
        ·subst ej; left; rw [← e, hb]
        ·right; exact ⟨j, by omega, e⟩
    ·simp only [decide_eq_false c2, spec_l02Boxes.j1, Bool.not_false]
     rw [if_pos trivial, if_neg (fun h => c2 h.2.2.1)]; rfl
   ·rw [if_neg (by simpa using c1)]
    simp only [spec_l02Boxes.j1]
    rw [if_pos trivial, if_neg (fun h => c1 h.2.1)]; rfl
  ·rw [if_neg c0]
   simp only [spec_l02Boxes.j1]
   rw [if_pos trivial, if_neg (fun h => c0 h.1)]; rfl
 ·rw [if_neg (by omega), List.drop_eq_nil_of_le (by omega)]
  simp only [boxS, boxesS]
  by_cases c0 : (bx.length : Int) > 0
  ·have hne : bx ≠ [] := by intro e; rw [e] at c0; simp at c0
   rw [if_pos c0, decide_eq_true hne, Bool.true_and]
   congr 1
  ·have hne : ¬ bx ≠ [] := by intro e; exact e (List.length_eq_zero_iff.mp (by omega))
   rw [if_neg c0, decide_eq_false hne, Bool.false_and]
theorem boxes_eq (h : Int) (fx : List Int) (bx : List S98) (hl : bx.length ≤ 140737488351232) (k : Nat) (hk : 1100 < k) : spec_l02Boxes.f k h fx bx = some (boxesS h bx (boxS bx 0 [])) := by
 unfold spec_l02Boxes.f
 have := boxes_loop h fx bx hl 24 k 0 0 [] (by omega) (by omega) (by omega) (by omega) (by omega) (by omega) (by simp)
 exact this
theorem boxS_le : ∀ (bs : List S98) (low : Int) (ps : List Int) (e : Int), boxS bs low ps = some e → low ≤ e ∧ (bs.length : Int) ≤ e - low ∧ (low ≤ 24 → e ≤ 24)
 | [], low, ps, e, h => by simp [boxS] at h; subst h; exact ⟨by omega, by simp, id⟩
 | b :: bs, low, ps, e, h => by
  simp only [boxS] at h
  split at h
  ·next hc =>
   obtain ⟨h1, h2, h3⟩ := boxS_le bs _ _ _ h
   exact ⟨by omega, by simp; omega, fun _ => h3 (by omega)⟩
  ·simp at h
theorem boxP_S (h : Int) (hh : h ≤ 24) : ∀ (bs : List S98) (low : Int) (ls ps : List Int) (e : Int) (ls' : List Int), 0 ≤ low → boxP h bs low ls ps = some (e, ls') → boxS bs low ps = some e ∧ ∀ f, f ∈ ls' ↔ f ∈ ls ∨ f ∈ bs.map (fun b => b.f0)
 | [], low, ls, ps, e, ls', h0, hb => by
  simp only [boxP, Option.some.injEq, Prod.mk.injEq] at hb
  obtain ⟨rfl, rfl⟩ := hb
  exact ⟨rfl, fun f => by simp⟩
 | b :: bs, low, ls, ps, e, ls', h0, hb => by
  simp only [boxP] at hb
  split at hb
  ·next hc =>
   obtain ⟨h1, h2⟩ := boxP_S h hh bs _ _ _ _ _ (by omega) hb
   refine ⟨?_, fun f => ?_⟩
   ·simp only [boxS]
    rw [if_pos ⟨hc.1, ⟨hc.2.1.1, by omega⟩, hc.2.2.1, hc.2.2.2, by omega⟩]
    exact h1
   ·rw [h2 f, List.mem_cons, List.map_cons, List.mem_cons]
    constructor
    ·rintro ((h | h) | h)
     ·exact Or.inr (Or.inl h)
     ·exact Or.inl h
     ·exact Or.inr (Or.inr h)
    ·rintro (h | h | h)
     ·exact Or.inl (Or.inr h)
     ·exact Or.inl (Or.inl h)
     ·exact Or.inr h
  ·simp at hb
theorem boxS_P (h : Int) : ∀ (bs : List S98) (low : Int) (ls ps : List Int), boxS bs low ps = some h → ∃ ls', boxP h bs low ls ps = some (h, ls')
 | [], low, ls, ps, hb => by
  simp only [boxS, Option.some.injEq] at hb
  subst hb
  exact ⟨ls, rfl⟩
 | b :: bs, low, ls, ps, hb => by
  simp only [boxS] at hb
  split at hb
  ·next hc =>
   have hle := (boxS_le bs _ _ _ hb).1
   obtain ⟨ls', h1⟩ := boxS_P h bs _ (b.f0 :: ls) _ hb
   refine ⟨ls', ?_⟩
   simp only [boxP]
   rw [if_pos ⟨hc.1, ⟨hc.2.1.1, by omega⟩, hc.2.2.1, hc.2.2.2.1⟩]
   exact h1
  ·simp at hb
theorem colS_eq (h : Int) (fx : List Int) (bx : List S98) : (decide (1 ≤ h ∧ h ≤ 24) && (boxesS h bx (boxS bx 0 []) && (fixP h none fx && fx.all (fun f => decide (f ∈ bx.map (fun b => b.f0)))))) = colP h fx bx := by
 unfold colP
 by_cases hh : 1 ≤ h ∧ h ≤ 24
 ·rw [decide_eq_true hh, Bool.true_and, Bool.true_and]
  cases hP : boxP h bx 0 [] [] with
  | none =>
   have hf : boxesS h bx (boxS bx 0 []) = false := by
    cases hS : boxS bx 0 [] with
    | none => rfl
    | some e =>
     by_cases c : e = h
     ·subst c
      obtain ⟨ls', hl⟩ := boxS_P e bx 0 [] [] hS
      rw [hl] at hP; simp at hP
     ·simp [boxesS, c]
   rw [hf]; simp
  | some z =>
   obtain ⟨e, ls⟩ := z
   obtain ⟨h1, h2⟩ := boxP_S h hh.2 bx 0 [] [] e ls (by omega) hP
   have ha : fx.all (fun f => decide (f ∈ bx.map (fun b => b.f0))) = fx.all (fun f => decide (f ∈ ls)) := by
    congr 1
    funext f
    rw [decide_eq_decide, h2 f]
    simp
   rw [h1, ha]
   simp only [boxesS]
   cases decide (bx ≠ []) <;> cases decide (e = h) <;> cases fixP h none fx <;> cases fx.all (fun f => decide (f ∈ ls)) <;> rfl
 ·rw [decide_eq_false hh, Bool.false_and, Bool.false_and, Bool.false_and, Bool.false_and]
def fixS (h : Int) (L : List Int) : Option Int → List Int → Bool
 | _, [] => true
 | p, f :: fs => decide (1 ≤ f ∧ f ≤ h - 1) && (match p with | none => true | some q => decide (q < f)) && decide (f ∈ L) && fixS h L (some f) fs
theorem fixS_eq (h : Int) (L : List Int) : ∀ (fs : List Int) (p : Option Int), fixS h L p fs = (fixP h p fs && fs.all (fun f => decide (f ∈ L)))
 | [], p => rfl
 | f :: fs, p => by
  simp only [fixS, fixP, List.all_cons]
  rw [fixS_eq h L fs (some f)]
  ac_rfl
theorem drop_step {α : Type} {l : List α} {i : Nat} {b : α} {rest : List α} (d : α) (h : l.drop i = b :: rest) : i < l.length ∧ l.getD i d = b ∧ l.drop (i + 1) = rest := by
 have hi : i < l.length := by
  apply Classical.byContradiction
  intro c
  rw [List.drop_eq_nil_of_le (by omega)] at h
  cases h
 have h2 := drop_cons l d i hi
 rw [h] at h2
 injection h2 with h3 h4
 exact ⟨hi, h3.symm, h4.symm⟩
theorem drop_end {α : Type} {l : List α} {i : Nat} (h : l.drop i = []) (hi : i ≤ l.length) : i = l.length := by
 have := List.drop_eq_nil_iff.mp h
 omega
theorem found_ev (h : Int) (fx : List Int) (bx : List S98) (i : Nat) (hi : i < fx.length) (hi2 : i ≤ 140737488351232) (hl : bx.length ≤ 24) (s : Bool) (hs : Ev (fun k => spec_ColumnOk.l0 k ((i + 1 : Nat) : Int) h fx bx) s) :
  ∀ (rest : List S98) (j : Nat) (b : Bool), bx.drop j = rest → j ≤ bx.length → Ev (fun k => spec_ColumnOk.l1 k (i : Int) b (j : Int) h fx bx) (if (b || rest.any (fun x => decide (x.f0 = fx.getD i 0))) = true then s else false)
 | [], j, b, hd, hj => by
  refine Ev.succ ?_
  simp only [spec_ColumnOk.l1]
  have he := drop_end hd hj
  refine Ev.neg (by omega) ?_
  rw [List.any_nil, Bool.or_false, wsucc i (by omega)]
  exact Ev.ite (fun _ => hs) (fun _ => Ev.ret _)
 | x :: rest, j, b, hd, hj => by
  obtain ⟨h1, h2, h3⟩ := drop_step z98 hd
  refine Ev.succ ?_
  simp only [spec_ColumnOk.l1]
  refine Ev.pos (by omega) ?_
  rw [wsucc j (by omega), List.any_cons]
  cases b with
  | true =>
   refine Ev.pos rfl ?_
   refine (found_ev h fx bx i hi hi2 hl s hs rest (j + 1) true h3 (by omega)).to ?_
   rw [Bool.true_or, Bool.true_or]
  | false =>
   refine Ev.neg (by simp) ?_
   refine Ev.pos (by omega) ?_
   refine Ev.pos (by omega) ?_
   refine Ev.pos (by omega) ?_
   refine (found_ev h fx bx i hi hi2 hl s hs rest (j + 1) _ h3 (by omega)).to ?_
   rw [Bool.false_or]
   have e1 : rd_T98 bx (j : Int) = x := h2
   have e2 : rd fx (i : Int) = fx.getD i 0 := rfl
   rw [e1, e2]
   rfl
theorem prev_eq (fx : List Int) (i : Nat) : prevP fx ((i + 1 : Nat) : Int) = some (fx.getD i 0) := by
 unfold prevP
 rw [if_neg (by omega), show ((i + 1 : Nat) : Int) - 1 = (i : Int) by omega]
 rfl
theorem any_lows (f : Int) (bx : List S98) : (bx.any (fun x => decide (x.f0 = f))) = decide (f ∈ bx.map (fun b => b.f0)) := by
 rw [Bool.eq_iff_iff, List.any_eq_true, decide_eq_true_iff, List.mem_map]
 constructor
 ·rintro ⟨x, hx, e⟩; exact ⟨x, hx, of_decide_eq_true e⟩
 ·rintro ⟨x, hx, e⟩; exact ⟨x, hx, decide_eq_true e⟩
theorem fixed_ev (h : Int) (h0 : 1 ≤ h) (h1 : h ≤ 24) (fx : List Int) (hx : fx.length ≤ 140737488351232) (bx : List S98) (hl : bx.length ≤ 24) :
  ∀ (rest : List Int) (i : Nat), fx.drop i = rest → i ≤ fx.length → Ev (fun k => spec_ColumnOk.l0 k (i : Int) h fx bx) (fixS h (bx.map (fun b => b.f0)) (prevP fx (i : Int)) rest)
 | [], i, hd, hj => by
  refine Ev.succ ?_
  simp only [spec_ColumnOk.l0]
  have he := drop_end hd hj
  refine Ev.neg (by omega) ?_
  exact Ev.ret _
 | f :: rest, i, hd, hj => by
  obtain ⟨h2, h3, h4⟩ := drop_step 0 hd
  have ih := fixed_ev h h0 h1 fx hx bx hl rest (i + 1) h4 (by omega)
  have hf := found_ev h fx bx i h2 (by omega) hl _ ih bx 0 false rfl (by omega)
  rw [Bool.false_or, any_lows, h3, prev_eq, h3] at hf
  have er : rd fx (i : Int) = f := h3
  have go : ∀ (b : Bool), Ev (fun k => spec_ColumnOk.j2 k (i : Int) b h fx bx) (if b = true then false else if decide (f ∈ bx.map (fun b => b.f0)) = true then fixS h (bx.map (fun b => b.f0)) (some f) rest else false) := by
   intro b
   refine Ev.succ ?_
   simp only [spec_ColumnOk.j2]
   exact Ev.ite (fun _ => Ev.ret _) (fun _ => hf)
  refine Ev.succ ?_
  simp only [spec_ColumnOk.l0]
  refine Ev.pos (by omega) ?_
  refine Ev.pos (by omega) ?_
  rw [er, wid (h - 1) (by omega) (by omega)]
  refine Ev.bind (Ev.const (in_eq _ _ _)) ?_
  simp only [fixS]
  by_cases c1 : 1 ≤ f ∧ f ≤ h - 1
  ·refine Ev.pos (decide_eq_true c1) ?_
   rw [decide_eq_true c1, Bool.true_and]
   by_cases c2 : (i : Int) > 0
   ·have hp : prevP fx (i : Int) = some (fx.getD (i - 1) 0) := by
     have := prev_eq fx (i - 1)
     rwa [show i - 1 + 1 = i by omega] at this
    have e2 : rd fx ((i - 1 : Nat) : Int) = fx.getD (i - 1) 0 := rfl
    refine Ev.pos c2 ?_
    rw [wpred i (by omega) (by omega), hp, e2]
    refine Ev.pos (by omega) ?_
    refine Ev.pos (by omega) ?_
    refine (go _).to ?_
    by_cases c3 : f ≤ fx.getD (i - 1) 0
    ·rw [if_pos (decide_eq_true c3)]
     simp only [decide_eq_false (show ¬ fx.getD (i - 1) 0 < f by omega), Bool.false_and]
    ·rw [if_neg (by simpa using c3)]
     simp only [decide_eq_true (show fx.getD (i - 1) 0 < f by omega), Bool.true_and]
     cases decide (f ∈ bx.map (fun b => b.f0)) <;> simp
   ·have hp : prevP fx (i : Int) = none := by unfold prevP; rw [if_pos (by omega)]
    refine Ev.neg c2 ?_
    refine (go _).to ?_
    rw [hp]
    cases decide (f ∈ bx.map (fun b => b.f0)) <;> simp
  ·refine Ev.neg (by simpa using c1) ?_
   refine (go _).to ?_
   rw [if_pos rfl, decide_eq_false c1]
   simp only [Bool.false_and]
theorem colok_ev (h : Int) (fx : List Int) (hx : fx.length ≤ 140737488351232) (bx : List S98) (hl : bx.length ≤ 140737488351232) : Ev (fun k => spec_ColumnOk.f k h fx bx) (colP h fx bx) := by
 refine Ev.of_eq ?_ (fun k => by unfold spec_ColumnOk.f; rfl)
 refine Ev.bind (Ev.const (in_eq _ _ _)) ?_
 rw [← colS_eq, ← fixS_eq]
 by_cases hh : 1 ≤ h ∧ h ≤ 24
 ·refine Ev.pos (decide_eq_true hh) ?_
  refine Ev.bind (Ev.mk 1100 (fun k hk => boxes_eq h fx bx hl k hk)) ?_
  rw [decide_eq_true hh, Bool.true_and]
  refine Ev.succ ?_
  simp only [spec_ColumnOk.j0]
  cases hS : boxS bx 0 [] with
  | none =>
   refine Ev.pos (by simp [boxesS]) ?_
   exact Ev.ret _
  | some e =>
   by_cases hb : boxesS h bx (some e) = true
   ·rw [hb]
    have hle := boxS_le bx 0 [] e hS
    have he : e ≤ 24 := hle.2.2 (by omega)
    refine Ev.neg (by simp) ?_
    exact fixed_ev h hh.1 hh.2 fx hx bx (by omega) fx 0 rfl (by omega)
   ·have hb2 : boxesS h bx (some e) = false := by simpa using hb
    rw [hb2]
    refine Ev.pos (by simp) ?_
    exact Ev.ret _
 ·refine Ev.neg (by simpa using hh) ?_
  rw [decide_eq_false hh, Bool.false_and]
  refine Ev.succ ?_
  simp only [spec_ColumnOk.j0]
  refine Ev.pos (by simp) ?_
  exact Ev.ret _
end Go.Proofs.Ytbpjidekjogfeaa.A

namespace Go.Proofs.Ytbpjidekjogfeaa.A
open Go.RowKit Go.Proofs.YtbpjidekjogfeaaW.PrintWords Go.Proofs.YtbpjidekjogfeaaW.PrintLast Go.Proofs.YtbpjidekjogfeaaW.PrintMore
set_option linter.unusedVariables false
set_option linter.unusedSimpArgs false
def opB (b : S98) : Bool := decide (b.f2 = 0) && !b.f3
def sumB (l : List S98) : Int := (l.map (fun b => b.f1)).foldr (· + ·) 0
theorem sumB_nil : sumB [] = 0 := rfl
theorem sumB_cons (b : S98) (l : List S98) : sumB (b :: l) = b.f1 + sumB l := rfl
theorem sumB_app (a b : List S98) : sumB (a ++ b) = sumB a + sumB b := by
 induction a with
 | nil => simp [sumB_nil]
 | cons x a ih => rw [List.cons_append, sumB_cons, sumB_cons, ih]; omega
def tile : Int → List S98 → Int → Prop
 | lo, [], hi => lo = hi
 | lo, b :: bs, hi => b.f0 = lo ∧ 1 ≤ b.f1 ∧ tile (lo + b.f1) bs hi
theorem tile_sum : ∀ (bs : List S98) (lo hi : Int), tile lo bs hi → lo + sumB bs = hi ∧ lo + bs.length ≤ hi
 | [], lo, hi, h => by simp only [tile] at h; subst h; simp [sumB_nil]
 | b :: bs, lo, hi, h => by
  obtain ⟨_, h1, h2⟩ := h
  have := tile_sum bs _ _ h2
  rw [sumB_cons, List.length_cons]
  omega
theorem tile_app : ∀ (a b : List S98) (lo hi : Int), tile lo (a ++ b) hi ↔ tile lo a (lo + sumB a) ∧ tile (lo + sumB a) b hi
 | [], b, lo, hi => by simp [tile, sumB_nil]
 | x :: a, b, lo, hi => by
  simp only [List.cons_append, tile, sumB_cons]
  rw [tile_app a b, show lo + (x.f1 + sumB a) = lo + x.f1 + sumB a by omega]
  constructor
  ·rintro ⟨h1, h2, h3, h4⟩; exact ⟨⟨h1, h2, h3⟩, h4⟩
  ·rintro ⟨⟨h1, h2, h3⟩, h4⟩; exact ⟨h1, h2, h3, h4⟩
theorem tile_mem : ∀ (bs : List S98) (lo hi : Int), tile lo bs hi → ∀ b ∈ bs, lo ≤ b.f0 ∧ 1 ≤ b.f1 ∧ b.f0 + b.f1 ≤ hi
 | [], _, _, _, b, hb => absurd hb (by simp)
 | x :: bs, lo, hi, h, b, hb => by
  obtain ⟨h0, h1, h2⟩ := h
  have h3 := tile_sum bs _ _ h2
  rcases List.mem_cons.mp hb with rfl | hb
  ·omega
  ·have := tile_mem bs _ _ h2 b hb
   omega
def Cut (fx : List Int) : List S98 → Prop
 | [] => True
 | b :: _ => opB b = false ∨ b.f0 ∈ fx
def gapR : List S98 → S50
 | [] => ⟨0, 0, 0⟩
 | b :: bs => ⟨0, b.f0, sumB (b :: bs)⟩
def emR (cur : List S98) : List S50 := if cur = [] then [] else [gapR cur]
def gapsW (fx : List Int) : List S98 → List S98 → List S50
 | cur, [] => emR cur
 | cur, b :: bs => if opB b = true then (if cur ≠ [] ∧ b.f0 ∉ fx then gapsW fx (cur ++ [b]) bs else emR cur ++ gapsW fx [b] bs) else emR cur ++ gapsW fx [] bs
def gapsB (fx : List Int) (bx : List S98) : List S50 := gapsW fx [] bx
def emD (pre cur bs : List S98) : List (List S98 × List S98 × List S98) := if cur = [] then [] else [(pre, cur, bs)]
def decs (fx : List Int) : List S98 → List S98 → List S98 → List (List S98 × List S98 × List S98)
 | pre, cur, [] => emD pre cur []
 | pre, cur, b :: bs => if opB b = true then (if cur ≠ [] ∧ b.f0 ∉ fx then decs fx pre (cur ++ [b]) bs else emD pre cur (b :: bs) ++ decs fx (pre ++ cur) [b] bs) else emD pre cur (b :: bs) ++ decs fx (pre ++ cur ++ [b]) [] bs
theorem emD_gap (pre cur bs : List S98) : (emD pre cur bs).map (fun d => gapR d.2.1) = emR cur := by
 unfold emD emR; split <;> rfl
theorem decs_gaps (fx : List Int) : ∀ (bs pre cur : List S98), (decs fx pre cur bs).map (fun d => gapR d.2.1) = gapsW fx cur bs
 | [], pre, cur => emD_gap pre cur []
 | b :: bs, pre, cur => by
  simp only [decs, gapsW]
  split
  ·split
   ·exact decs_gaps fx bs _ _
   ·rw [List.map_append, emD_gap, decs_gaps fx bs]
  ·rw [List.map_append, emD_gap, decs_gaps fx bs]
theorem gapsW_cut (fx : List Int) (B cur : List S98) (h : Cut fx B) : gapsW fx cur B = emR cur ++ gapsW fx [] B := by
 cases B with
 | nil => simp [gapsW, emR]
 | cons b B =>
  have e : emR [] = [] := rfl
  simp only [gapsW]
  by_cases hb : opB b = true
  ·have hf : b.f0 ∈ fx := by
    rcases h with h | h
    ·rw [hb] at h; cases h
    ·exact h
   rw [if_pos hb, if_pos hb, if_neg (fun c => c.2 hf), if_neg (fun c => c.2 hf), e, List.nil_append]
  ·rw [if_neg hb, if_neg hb, e, List.nil_append]
theorem gapsW_app (fx : List Int) (B : List S98) (h : Cut fx B) : ∀ (A cur : List S98), gapsW fx cur (A ++ B) = gapsW fx cur A ++ gapsW fx [] B
 | [], cur => gapsW_cut fx B cur h
 | a :: A, cur => by
  simp only [List.cons_append, gapsW]
  split
  ·split
   ·exact gapsW_app fx B h A _
   ·rw [gapsW_app fx B h A, List.append_assoc]
  ·rw [gapsW_app fx B h A, List.append_assoc]
def Shut (fx : List Int) (A : List S98) : Prop := ∀ Z, gapsW fx [] (A ++ Z) = gapsW fx [] A ++ gapsW fx [] Z
def ShutAt (fx : List Int) (A : List S98) (lo : Int) : Prop := ∀ z Z, z.f0 = lo → gapsW fx [] (A ++ z :: Z) = gapsW fx [] A ++ gapsW fx [] (z :: Z)
theorem shut_nil (fx : List Int) : Shut fx [] := fun Z => by simp [gapsW, emR]
theorem shut_snoc (fx : List Int) (A : List S98) (b : S98) (hb : opB b = false) : Shut fx (A ++ [b]) := by
 intro Z
 have hc : ∀ Z, Cut fx (b :: Z) := fun Z => Or.inl hb
 have hb' : ¬ opB b = true := by rw [hb]; simp
 rw [List.append_assoc, show [b] ++ Z = b :: Z from rfl, gapsW_app fx (b :: Z) (hc Z), gapsW_app fx [b] (hc []), List.append_assoc]
 simp only [gapsW]
 rw [if_neg hb', if_neg hb']
 simp [emR]
theorem Shut.at {fx : List Int} {A : List S98} (h : Shut fx A) (lo : Int) : ShutAt fx A lo := fun z Z _ => h (z :: Z)
theorem shutAt_fixed (fx : List Int) (A : List S98) (lo : Int) (h : lo ∈ fx) : ShutAt fx A lo := fun z Z e => gapsW_app fx (z :: Z) (Or.inr (by rw [e]; exact h)) A []
def loR (R : List S98) : Int := (R.headD z98).f0
structure RunAt (fx : List Int) (bx A R B : List S98) : Prop where
 all : A ++ R ++ B = bx
 ne : R ≠ []
 opn : ∀ b ∈ R, opB b = true
 free : ∀ b ∈ R.tail, b.f0 ∉ fx
 pre : ShutAt fx A (loR R)
 post : Cut fx B
theorem loR_app {R : List S98} (h : R ≠ []) (S : List S98) : loR (R ++ S) = loR R := by
 cases R with
 | nil => exact absurd rfl h
 | cons x R => rfl
theorem decs_runs (fx : List Int) : ∀ (bs pre cur : List S98), (cur = [] → Shut fx pre) → (cur ≠ [] → ShutAt fx pre (loR cur) ∧ (∀ b ∈ cur, opB b = true) ∧ ∀ b ∈ cur.tail, b.f0 ∉ fx) →
  ∀ d ∈ decs fx pre cur bs, RunAt fx (pre ++ cur ++ bs) d.1 d.2.1 d.2.2 := by
 intro bs
 induction bs with
 | nil =>
  intro pre cur h0 h1 d hd
  simp only [decs, emD] at hd
  split at hd
  ·simp at hd
  ·next hc =>
   simp only [List.mem_singleton] at hd
   subst hd
   exact ⟨rfl, hc, (h1 hc).2.1, (h1 hc).2.2, (h1 hc).1, trivial⟩
 | cons b bs ih =>
  intro pre cur h0 h1 d hd
  simp only [decs] at hd
  have em : ∀ (hC : Cut fx (b :: bs)), d ∈ emD pre cur (b :: bs) → RunAt fx (pre ++ cur ++ b :: bs) d.1 d.2.1 d.2.2 := by
   intro hC he
   simp only [emD] at he
   split at he
   ·simp at he
   ·next hc =>
    simp only [List.mem_singleton] at he
    subst he
    exact ⟨rfl, hc, (h1 hc).2.1, (h1 hc).2.2, (h1 hc).1, hC⟩
  by_cases hb : opB b = true
  ·rw [if_pos hb] at hd
   by_cases hc : cur ≠ [] ∧ b.f0 ∉ fx
   ·rw [if_pos hc] at hd
    obtain ⟨g1, g2, g3⟩ := h1 hc.1
    have := ih pre (cur ++ [b]) (fun e => by simp at e) (fun _ => ⟨by rw [loR_app hc.1]; exact g1, fun x hx => by
     rcases List.mem_append.mp hx with hx | hx
     ·exact g2 x hx
     ·rw [List.mem_singleton.mp hx]; exact hb, fun x hx => by
     rw [List.tail_append_of_ne_nil hc.1] at hx
     rcases List.mem_append.mp hx with hx | hx
     ·exact g3 x hx
     ·rw [List.mem_singleton.mp hx]; exact hc.2⟩) d hd
    simpa using this
   ·rw [if_neg hc] at hd
    rcases List.mem_append.mp hd with hd | hd
    ·by_cases hcur : cur = []
     ·subst hcur; simp [emD] at hd
     ·exact em (Or.inr (Classical.byContradiction fun e => hc ⟨hcur, e⟩)) hd
    ·have := ih (pre ++ cur) [b] (fun e => by simp at e) (fun _ => ⟨by
      by_cases hcur : cur = []
      ·subst hcur; rw [List.append_nil]; exact (h0 rfl).at _
      ·exact shutAt_fixed fx _ _ (Classical.byContradiction fun e => hc ⟨hcur, e⟩), fun x hx => by rw [List.mem_singleton.mp hx]; exact hb, fun x hx => by simp at hx⟩) d hd
     simpa using this
  ·rw [if_neg hb] at hd
   have hb' : opB b = false := by simpa using hb
   rcases List.mem_append.mp hd with hd | hd
   ·exact em (Or.inl hb') hd
   ·have := ih (pre ++ cur ++ [b]) [] (fun _ => shut_snoc fx _ b hb') (fun e => absurd rfl e) d hd
    simpa using this
theorem decs_top (fx : List Int) (bx : List S98) : ∀ d ∈ decs fx [] [] bx, RunAt fx bx d.1 d.2.1 d.2.2 := by
 have := decs_runs fx bx [] [] (fun _ => shut_nil fx) (fun e => absurd rfl e)
 simpa using this
theorem gapsW_run (fx : List Int) : ∀ (R cur : List S98), cur ≠ [] → (∀ b ∈ R, opB b = true) → (∀ b ∈ R, b.f0 ∉ fx) → gapsW fx cur R = [gapR (cur ++ R)]
 | [], cur, hc, _, _ => by simp only [gapsW, emR]; rw [if_neg hc, List.append_nil]
 | b :: R, cur, hc, h1, h2 => by
  simp only [gapsW]
  rw [if_pos (h1 b (by simp)), if_pos ⟨hc, h2 b (by simp)⟩, gapsW_run fx R (cur ++ [b]) (by simp) (fun x hx => h1 x (by simp [hx])) (fun x hx => h2 x (by simp [hx]))]
  simp
theorem run_gap {fx : List Int} {bx A R B : List S98} (h : RunAt fx bx A R B) : gapsB fx R = [gapR R] := by
 have h1 := h.ne
 have h2 := h.opn
 have h3 := h.free
 cases R with
 | nil => exact absurd rfl h1
 | cons r R =>
  unfold gapsB
  simp only [gapsW]
  rw [if_pos (h2 r (by simp)), if_neg (fun c => c.1 rfl), gapsW_run fx R [r] (by simp) (fun x hx => h2 x (by simp [hx])) (fun x hx => h3 x hx)]
  rfl
theorem run_put {fx : List Int} {bx A R B : List S98} (h : RunAt fx bx A R B) (N : List S98) (hN : N ≠ []) (hs : loR N = loR R ∨ Cut fx N) : gapsB fx (A ++ N ++ B) = gapsB fx A ++ gapsB fx N ++ gapsB fx B := by
 unfold gapsB
 cases N with
 | nil => exact absurd rfl hN
 | cons n N =>
  have h1 : gapsW fx [] (A ++ (n :: N)) = gapsW fx [] A ++ gapsW fx [] (n :: N) := by
   rcases hs with hs | hs
   ·exact h.pre n N hs
   ·exact gapsW_app fx (n :: N) hs A []
  rw [gapsW_app fx B h.post, h1]
theorem run_gaps {fx : List Int} {bx A R B : List S98} (h : RunAt fx bx A R B) : gapsB fx bx = gapsB fx A ++ [gapR R] ++ gapsB fx B := by
 rw [← h.all, run_put h R h.ne (Or.inl rfl), run_gap h]
theorem gapsW_asc (fx : List Int) : ∀ (bs cur : List S98) (lo hi : Int), tile lo bs hi → (cur ≠ [] → loR cur < lo) → (gapsW fx cur bs).Pairwise (fun a b => a.f1 < b.f1) ∧ ∀ g ∈ gapsW fx cur bs, (cur = [] → lo ≤ g.f1) ∧ (cur ≠ [] → loR cur ≤ g.f1)
 | [], cur, lo, hi, _, hc => by
  simp only [gapsW, emR]
  split
  ·next e => exact ⟨List.Pairwise.nil, fun g hg => absurd hg (by simp)⟩
  ·next e =>
   refine ⟨by simp, fun g hg => ⟨fun c => absurd c e, fun _ => ?_⟩⟩
   rw [List.mem_singleton.mp hg]
   cases cur with
   | nil => exact absurd rfl e
   | cons x cur => exact Int.le_refl _
 | b :: bs, cur, lo, hi, ht, hc => by
  obtain ⟨e0, e1, e2⟩ := ht
  simp only [gapsW]
  have em : ∀ (L : List S50), L.Pairwise (fun a b => a.f1 < b.f1) → (∀ g ∈ L, lo ≤ g.f1) → (emR cur ++ L).Pairwise (fun a b => a.f1 < b.f1) ∧ ∀ g ∈ emR cur ++ L, (cur = [] → lo ≤ g.f1) ∧ (cur ≠ [] → loR cur ≤ g.f1) := by
   intro L h1 h2
   unfold emR
   by_cases e : cur = []
   ·rw [if_pos e, List.nil_append]
    exact ⟨h1, fun g hg => ⟨fun _ => h2 g hg, fun c => absurd e c⟩⟩
   ·have hl := hc e
    have hg0 : (gapR cur).f1 = loR cur := by cases cur with | nil => exact absurd rfl e | cons x cur => rfl
    rw [if_neg e]
    refine ⟨List.pairwise_append.mpr ⟨by simp, h1, fun a ha b hb => ?_⟩, fun g hg => ⟨fun c => absurd c e, fun _ => ?_⟩⟩
    ·rw [List.mem_singleton.mp ha, hg0]; have := h2 b hb; omega
    ·rcases List.mem_append.mp hg with hg | hg
     ·rw [List.mem_singleton.mp hg, hg0]; exact Int.le_refl _
     ·have := h2 g hg; omega
  split
  ·split
   ·next h =>
    have ih := gapsW_asc fx bs (cur ++ [b]) _ hi e2 (fun _ => by rw [loR_app h.1]; have := hc h.1; omega)
    refine ⟨ih.1, fun g hg => ⟨fun c => absurd c h.1, fun _ => ?_⟩⟩
    have := (ih.2 g hg).2 (by simp)
    rwa [loR_app h.1] at this
   ·have ih := gapsW_asc fx bs [b] _ hi e2 (fun _ => by show b.f0 < _; omega)
    exact em _ ih.1 (fun g hg => by have := (ih.2 g hg).2 (by simp); show lo ≤ g.f1; have h2 : loR [b] = b.f0 := rfl; omega)
  ·have ih := gapsW_asc fx bs [] _ hi e2 (fun e => absurd rfl e)
   exact em _ ih.1 (fun g hg => by have := (ih.2 g hg).1 rfl; omega)
def fillB (lo sz : Int) (N bx : List S98) : List S98 := bx.flatMap (fun b => (if b.f0 = lo then N else []) ++ (if b.f0 < lo ∨ lo + sz ≤ b.f0 then [b] else []))
theorem fillB_out (lo sz : Int) (N : List S98) : ∀ (l : List S98), (∀ b ∈ l, b.f0 ≠ lo ∧ (b.f0 < lo ∨ lo + sz ≤ b.f0)) → fillB lo sz N l = l
 | [], _ => rfl
 | b :: l, h => by
  have h1 := h b (by simp)
  have ih := fillB_out lo sz N l (fun x hx => h x (by simp [hx]))
  unfold fillB at ih ⊢
  rw [List.flatMap_cons, ih, if_neg h1.1, if_pos h1.2]
  rfl
theorem fillB_in (lo sz : Int) (N : List S98) : ∀ (l : List S98), (∀ b ∈ l, lo < b.f0 ∧ b.f0 < lo + sz) → fillB lo sz N l = []
 | [], _ => rfl
 | b :: l, h => by
  have h1 := h b (by simp)
  have ih := fillB_in lo sz N l (fun x hx => h x (by simp [hx]))
  unfold fillB at ih ⊢
  rw [List.flatMap_cons, ih, if_neg (by omega), if_neg (by omega)]
  rfl
theorem fillB_run {A R B : List S98} {lo hi : Int} (h : tile lo (A ++ R ++ B) hi) (hR : R ≠ []) (N : List S98) : fillB (loR R) (sumB R) N (A ++ R ++ B) = A ++ N ++ B := by
 rw [tile_app, tile_app] at h
 obtain ⟨⟨hA, hM⟩, hB⟩ := h
 rw [sumB_app] at hB
 cases R with
 | nil => exact absurd rfl hR
 | cons r R =>
  have er : loR (r :: R) = r.f0 := rfl
  obtain ⟨m0, m1, m2⟩ := hM
  have s := tile_sum _ _ _ m2
  unfold fillB
  rw [List.flatMap_append, List.flatMap_append]
  have a1 := fillB_out (loR (r :: R)) (sumB (r :: R)) N A (fun b hb => by have := tile_mem _ _ _ hA b hb; rw [er]; omega)
  have a2 := fillB_out (loR (r :: R)) (sumB (r :: R)) N B (fun b hb => by have := tile_mem _ _ _ hB b hb; rw [er, sumB_cons] at *; omega)
  have a3 := fillB_in (loR (r :: R)) (sumB (r :: R)) N R (fun b hb => by have := tile_mem _ _ _ m2 b hb; rw [er, sumB_cons]; omega)
  unfold fillB at a1 a2 a3
  rw [a1, a2, List.flatMap_cons, a3, if_pos er.symm, if_neg (by rw [er, sumB_cons]; have := tile_sum _ _ _ m2; omega)]
  simp
def parcs (ps : List Int) : List S98 → Prop
 | [] => True
 | b :: bs => (0 ≤ b.f2 ∧ b.f2 ≤ 999) ∧ ¬ (0 < b.f2 ∧ b.f2 ∈ ps) ∧ parcs (b.f2 :: ps) bs
theorem boxS_iff : ∀ (bs : List S98) (low : Int) (ps : List Int) (e : Int), 0 ≤ low → low ≤ 24 → (boxS bs low ps = some e ↔ tile low bs e ∧ e ≤ 24 ∧ parcs ps bs)
 | [], low, ps, e, h0, h => by
  simp only [boxS, tile, parcs, Option.some.injEq]
  constructor
  ·rintro rfl; exact ⟨rfl, h, trivial⟩
  ·rintro ⟨h, _⟩; exact h
 | b :: bs, low, ps, e, hn, h => by
  simp only [boxS, tile, parcs]
  constructor
  ·intro hs
   split at hs
   ·next hc =>
    obtain ⟨h1, h2, h3⟩ := (boxS_iff bs _ _ e (by omega) hc.2.2.2.2).mp hs
    exact ⟨⟨hc.1, hc.2.1.1, h1⟩, h2, hc.2.2.1, hc.2.2.2.1, h3⟩
   ·cases hs
  ·rintro ⟨⟨h0, h1, h2⟩, h3, h4, h5, h6⟩
   have hs := tile_sum _ _ _ h2
   rw [if_pos ⟨h0, ⟨h1, by omega⟩, h4, h5, by omega⟩]
   exact (boxS_iff bs _ _ e (by omega) (by omega)).mpr ⟨h2, h3, h6⟩
structure ColV (h : Int) (fx : List Int) (bx : List S98) : Prop where
 hi : 1 ≤ h ∧ h ≤ 24
 til : tile 0 bx h
 par : parcs [] bx
 fix : fixP h none fx = true
 low : ∀ f ∈ fx, ∃ b ∈ bx, b.f0 = f
theorem colP_iff (h : Int) (fx : List Int) (bx : List S98) : colP h fx bx = true ↔ ColV h fx bx := by
 rw [← colS_eq]
 constructor
 ·intro e
  simp only [Bool.and_eq_true, decide_eq_true_eq] at e
  obtain ⟨e1, e2, e3, e4⟩ := e
  cases hS : boxS bx 0 [] with
  | none => rw [hS] at e2; simp [boxesS] at e2
  | some x =>
   rw [hS] at e2
   simp only [boxesS, Bool.and_eq_true, decide_eq_true_eq] at e2
   obtain ⟨_, rfl⟩ := e2
   obtain ⟨t1, t2, t3⟩ := (boxS_iff bx 0 [] x (by omega) (by omega)).mp hS
   refine ⟨e1, t1, t3, e3, fun f hf => ?_⟩
   have := List.all_eq_true.mp e4 f hf
   simp only [decide_eq_true_eq, List.mem_map] at this
   exact this
 ·intro v
  have hS := (boxS_iff bx 0 [] h (by omega) (by omega)).mpr ⟨v.til, v.hi.2, v.par⟩
  have hne : bx ≠ [] := by
   intro e
   have := v.til
   rw [e] at this
   simp only [tile] at this
   have := v.hi
   omega
  simp only [Bool.and_eq_true, decide_eq_true_eq]
  refine ⟨v.hi, ?_, v.fix, ?_⟩
  ·rw [hS]; simp [boxesS, hne]
  ·exact List.all_eq_true.mpr (fun f hf => by simp only [decide_eq_true_eq, List.mem_map]; exact v.low f hf)
theorem ColV.len {h : Int} {fx : List Int} {bx : List S98} (v : ColV h fx bx) : bx.length ≤ 24 := by
 have := tile_sum _ _ _ v.til
 have := v.hi
 omega
theorem ColV.mem {h : Int} {fx : List Int} {bx : List S98} (v : ColV h fx bx) {b : S98} (hb : b ∈ bx) : 0 ≤ b.f0 ∧ 1 ≤ b.f1 ∧ b.f0 + b.f1 ≤ 24 := by
 have := tile_mem _ _ _ v.til b hb
 have := v.hi
 omega
theorem parcs_iff : ∀ (bs : List S98) (ps : List Int), parcs ps bs ↔ (∀ b ∈ bs, 0 ≤ b.f2 ∧ b.f2 ≤ 999) ∧ (∀ b ∈ bs, 0 < b.f2 → b.f2 ∉ ps) ∧ bs.Pairwise (fun a b => 0 < b.f2 → a.f2 ≠ b.f2)
 | [], ps => by simp [parcs]
 | b :: bs, ps => by
  simp only [parcs]
  rw [parcs_iff bs]
  constructor
  ·rintro ⟨h1, h2, h3, h4, h5⟩
   refine ⟨fun x hx => ?_, fun x hx h0 => ?_, List.pairwise_cons.mpr ⟨fun x hx h0 e => h4 x hx h0 (by rw [← e]; simp), h5⟩⟩
   ·rcases List.mem_cons.mp hx with rfl | hx
    ·exact h1
    ·exact h3 x hx
   ·rcases List.mem_cons.mp hx with rfl | hx
    ·exact fun hm => h2 ⟨h0, hm⟩
    ·exact fun hm => h4 x hx h0 (by simp [hm])
  ·rintro ⟨h1, h2, h3⟩
   obtain ⟨h4, h5⟩ := List.pairwise_cons.mp h3
   refine ⟨h1 b (by simp), fun h => h2 b (by simp) h.1 h.2, fun x hx => h1 x (by simp [hx]), fun x hx h0 hm => ?_, h5⟩
   rcases List.mem_cons.mp hm with e | hm
   ·exact h4 x hx h0 e.symm
   ·exact h2 x (by simp [hx]) h0 hm
def leastW (size : Int) : Option S50 → List S50 → Option S50
 | best, [] => best
 | best, g :: l => if size ≤ g.f2 ∧ (∀ b ∈ best, g.f2 < b.f2) then leastW size (some g) l else leastW size best l
def leastP (size : Int) (l : List S50) : Option S50 := if size < 1 then none else leastW size none l
theorem leastW_some (size : Int) : ∀ (l : List S50) (b : S50), size ≤ b.f2 → 
  (leastW size (some b) l = some b ∧ ∀ x ∈ l, x.f2 < size ∨ b.f2 ≤ x.f2) ∨ ∃ l1 g l2, l = l1 ++ g :: l2 ∧ leastW size (some b) l = some g ∧ size ≤ g.f2 ∧ g.f2 < b.f2 ∧ (∀ x ∈ l1, x.f2 < size ∨ g.f2 < x.f2) ∧ ∀ x ∈ l2, x.f2 < size ∨ g.f2 ≤ x.f2
 | [], b, hb => Or.inl ⟨rfl, by simp⟩
 | y :: l, b, hb => by
  simp only [leastW, Option.mem_def, Option.some.injEq, forall_eq']
  by_cases c : size ≤ y.f2 ∧ y.f2 < b.f2
  ·rw [if_pos c]
   right
   rcases leastW_some size l y c.1 with ⟨h1, h2⟩ | ⟨l1, g, l2, h0, h1, h2, h3, h4, h5⟩
   ·exact ⟨[], y, l, rfl, h1, c.1, c.2, by simp, h2⟩
   ·exact ⟨y :: l1, g, l2, by rw [h0]; rfl, h1, h2, by omega, fun x hx => by
     rcases List.mem_cons.mp hx with rfl | hx
     ·exact Or.inr h3
     ·exact h4 x hx, h5⟩
  ·rw [if_neg c]
   rcases leastW_some size l b hb with ⟨h1, h2⟩ | ⟨l1, g, l2, h0, h1, h2, h3, h4, h5⟩
   ·left
    exact ⟨h1, fun x hx => by
     rcases List.mem_cons.mp hx with rfl | hx
     ·omega
     ·exact h2 x hx⟩
   ·right
    exact ⟨y :: l1, g, l2, by rw [h0]; rfl, h1, h2, h3, fun x hx => by
     rcases List.mem_cons.mp hx with rfl | hx
     ·omega
     ·exact h4 x hx, h5⟩
theorem leastW_none (size : Int) : ∀ (l : List S50),
  (leastW size none l = none ∧ ∀ x ∈ l, x.f2 < size) ∨ ∃ l1 g l2, l = l1 ++ g :: l2 ∧ leastW size none l = some g ∧ size ≤ g.f2 ∧ (∀ x ∈ l1, x.f2 < size ∨ g.f2 < x.f2) ∧ ∀ x ∈ l2, x.f2 < size ∨ g.f2 ≤ x.f2
 | [] => Or.inl ⟨rfl, by simp⟩
 | y :: l => by
  simp only [leastW]
  by_cases c : size ≤ y.f2
  ·rw [if_pos ⟨c, fun b hb => by cases hb⟩]
   right
   rcases leastW_some size l y c with ⟨h1, h2⟩ | ⟨l1, g, l2, h0, h1, h2, h3, h4, h5⟩
   ·exact ⟨[], y, l, rfl, h1, c, by simp, h2⟩
   ·exact ⟨y :: l1, g, l2, by rw [h0]; rfl, h1, h2, fun x hx => by
     rcases List.mem_cons.mp hx with rfl | hx
     ·exact Or.inr h3
     ·exact h4 x hx, h5⟩
  ·rw [if_neg (fun h => c h.1)]
   rcases leastW_none size l with ⟨h1, h2⟩ | ⟨l1, g, l2, h0, h1, h2, h4, h5⟩
   ·left
    exact ⟨h1, fun x hx => by
     rcases List.mem_cons.mp hx with rfl | hx
     ·omega
     ·exact h2 x hx⟩
   ·right
    exact ⟨y :: l1, g, l2, by rw [h0]; rfl, h1, h2, fun x hx => by
     rcases List.mem_cons.mp hx with rfl | hx
     ·omega
     ·exact h4 x hx, h5⟩
end Go.Proofs.Ytbpjidekjogfeaa.A

namespace Go.Proofs.Ytbpjidekjogfeaa.A
open Go.RowKit Go.Proofs.YtbpjidekjogfeaaW.PrintWords Go.Proofs.YtbpjidekjogfeaaW.PrintLast Go.Proofs.YtbpjidekjogfeaaW.PrintMore
set_option linter.unusedVariables false
set_option linter.unusedSimpArgs false
def toI_Box (b : S123) : S98 := ⟨b.f0, b.f1, b.f2, b.f3⟩
theorem toIntS_ev (l : List Int) (hl : l.length ≤ 1048576) : Ev (fun k => laws_toIntS.f k l) l := Ev.mk l.length (fun k hk => by
 unfold laws_toIntS.f
 rw [if_pos (by omega), if_pos (by omega)]
 refine (map_loop (L := fun k acc i => laws_toIntS.l0 k l acc i) (xs := l) (g := id) 0 (fun k acc i hi ha => ?_) (fun k acc => ?_) l.length k _ 0 (by omega) hk (by simp) (fun j hj => by omega)).trans (by rw [List.map_id])
 ·simp only [laws_toIntS.l0]
  rw [if_pos (by omega), if_pos (by omega), if_pos (by omega), wsucc i (by omega)]
  rfl
 ·simp only [laws_toIntS.l0]
  rw [if_neg (by omega)])
theorem toBoxS_ev (l : List S123) (hl : l.length ≤ 1048576) : Ev (fun k => laws_toBoxS.f k l) (l.map toI_Box) := Ev.mk l.length (fun k hk => by
 unfold laws_toBoxS.f
 rw [if_pos (by omega), if_pos (by omega)]
 refine map_loop (L := fun k acc i => laws_toBoxS.l0 k l acc i) z123 (fun k acc i hi ha => ?_) (fun k acc => ?_) l.length k _ 0 (by omega) hk (by simp) (fun j hj => by omega)
 ·simp only [laws_toBoxS.l0]
  rw [if_pos (by omega), if_pos (by omega)]
  simp only [laws_toBox.f, Option.bind_some]
  rw [if_pos (by omega), wsucc i (by omega)]
  rfl
 ·simp only [laws_toBoxS.l0]
  rw [if_neg (by omega)])
theorem toColumn_ev (h : Int) (fx : List Int) (bx : List S123) (hf : fx.length ≤ 1048576) (hb : bx.length ≤ 1048576) : Ev (fun k => laws_toColumn.f k h fx bx) (h, fx, bx.map toI_Box) := by
 unfold laws_toColumn.f
 exact Ev.bind (toIntS_ev fx hf) (Ev.bind (toBoxS_ev bx hb) (Ev.ret _))
theorem szColumn_eq (h : Int) (fx : List Int) (bx : List S123) (a : Int) (h0 : 0 ≤ a) (h1 : a ≤ 1048576) (hf : fx.length ≤ 9223372036854775807) (hb : bx.length ≤ 9223372036854775807) : laws_szColumn.f h fx bx a = some (if a < fx.length + bx.length then -1 else a - fx.length - bx.length) := by
 unfold laws_szColumn.f laws_szIntS.f laws_szBoxS.f
 rw [wid (a - (fx.length : Int)) (by omega) (by omega)]
 by_cases c : a - (fx.length : Int) < 0
 ·rw [if_pos c]
  simp only [Option.bind_some]
  rw [if_pos (by omega), if_pos (by omega)]
 ·rw [if_neg c]
  simp only [Option.bind_some]
  rw [if_neg c, wid (a - (fx.length : Int) - (bx.length : Int)) (by omega) (by omega)]
  by_cases d : a - (fx.length : Int) - (bx.length : Int) < 0
  ·rw [if_pos d]
   simp only [Option.bind_some]
   rw [if_pos (by omega), if_pos (by omega)]
  ·rw [if_neg d]
   simp only [Option.bind_some]
   rw [if_neg d, if_neg (by omega)]
theorem eqIntS_ev (l : List Int) (hl : l.length ≤ 1048576) : Ev (fun k => laws_eqIntS.f k l l) true := Ev.mk l.length (fun k hk => by
 unfold laws_eqIntS.f
 rw [if_pos rfl]
 have h := all_loop (L := fun k i => laws_eqIntS.l0 k l l i) (n := l.length) (P := fun _ => true) (fun k i hi => ?_) (fun k => ?_) l.length k 0 (by omega) hk
 ·have e : (List.range' 0 l.length).all (fun _ => true) = true := by simp
  rw [e] at h
  exact h
 ·simp only [laws_eqIntS.l0]
  rw [if_pos (by omega), if_pos (by omega), if_pos (by omega)]
  simp only [if_true]
  rw [wsucc i (by omega)]
 ·simp only [laws_eqIntS.l0]
  rw [if_neg (by omega)])
theorem eqBoxS_ev (l : List S98) (hl : l.length ≤ 1048576) : Ev (fun k => laws_eqBoxS.f k l l) true := Ev.mk l.length (fun k hk => by
 unfold laws_eqBoxS.f
 rw [if_pos rfl]
 have h := all_loop (L := fun k i => laws_eqBoxS.l0 k l l i) (n := l.length) (P := fun _ => true) (fun k i hi => ?_) (fun k => ?_) l.length k 0 (by omega) hk
 ·have e : (List.range' 0 l.length).all (fun _ => true) = true := by simp
  rw [e] at h
  exact h
 ·simp only [laws_eqBoxS.l0]
  rw [if_pos (by omega), if_pos (by omega), if_pos (by omega)]
  simp only [laws_eqBox.f, bne_self_eq_false, Bool.false_eq_true, if_false, if_true, Option.bind_some]
  rw [wsucc i (by omega)]
 ·simp only [laws_eqBoxS.l0]
  rw [if_neg (by omega)])
theorem eqColumn_ev (h : Int) (fx : List Int) (bx : List S98) (hf : fx.length ≤ 1048576) (hb : bx.length ≤ 1048576) : Ev (fun k => laws_eqColumn.f k h fx bx h fx bx) true := by
 unfold laws_eqColumn.f
 refine Ev.pos rfl ?_
 refine Ev.bind (eqIntS_ev fx hf) ?_
 refine Ev.pos rfl ?_
 refine Ev.bind (eqBoxS_ev bx hb) ?_
 refine Ev.pos rfl ?_
 exact Ev.ret _
end Go.Proofs.Ytbpjidekjogfeaa.A

namespace Go.Proofs.Ytbpjidekjogfeaa.A
open Go.RowKit Go.Proofs.YtbpjidekjogfeaaW.PrintWords Go.Proofs.YtbpjidekjogfeaaW.PrintLast Go.Proofs.YtbpjidekjogfeaaW.PrintMore
set_option linter.unusedVariables false
set_option linter.unusedSimpArgs false
theorem clone_ev (l : List Int) (hl : l.length ≤ 4398046511103) : Ev (fun _ => slices_Clone_int_int.f l) l := Ev.const (by
 unfold slices_Clone_int_int.f
 simp only [Option.bind_some, List.length_nil, List.nil_append, Nat.zero_add]
 rw [if_pos (by omega)])
theorem cloneB_ev (l : List S98) (hl : l.length ≤ 4398046511103) : Ev (fun _ => impl_Box_117.f l) l := Ev.const (by
 unfold impl_Box_117.f
 simp only [Option.bind_some, List.length_nil, List.nil_append, Nat.zero_add]
 rw [if_pos (by omega)])
theorem copy_ev (h : Int) (fx : List Int) (bx : List S98) (hf : fx.length ≤ 4398046511103) (hb : bx.length ≤ 4398046511103) : Ev (fun _ => impl_copyColumn.f h fx bx) (h, fx, bx) := by
 unfold impl_copyColumn.f
 exact Ev.bind (clone_ev fx hf) (Ev.bind (cloneB_ev bx hb) (Ev.ret _))
theorem idxP_add : ∀ (l : List S98) (p i : Int), 0 ≤ i → (idxP l p i = -1 ∧ ∀ b ∈ l, b.f2 ≠ p) ∨ ∃ l1 b l2, l = l1 ++ b :: l2 ∧ b.f2 = p ∧ (∀ x ∈ l1, x.f2 ≠ p) ∧ idxP l p i = i + l1.length
 | [], p, i, _ => Or.inl ⟨rfl, by simp⟩
 | b :: l, p, i, hi => by
  simp only [idxP]
  by_cases c : b.f2 = p
  ·rw [if_pos c]
   exact Or.inr ⟨[], b, l, rfl, c, by simp, by simp⟩
  ·rw [if_neg c]
   rcases idxP_add l p (i + 1) (by omega) with ⟨h1, h2⟩ | ⟨l1, x, l2, h1, h2, h3, h4⟩
   ·exact Or.inl ⟨h1, fun y hy => by
     rcases List.mem_cons.mp hy with rfl | hy
     ·exact c
     ·exact h2 y hy⟩
   ·refine Or.inr ⟨b :: l1, x, l2, by rw [h1]; rfl, h2, fun y hy => ?_, by rw [h4, List.length_cons]; omega⟩
    rcases List.mem_cons.mp hy with rfl | hy
    ·exact c
    ·exact h3 y hy
theorem idxP_cases (l : List S98) (p : Int) : (idxP l p 0 = -1 ∧ ∀ b ∈ l, b.f2 ≠ p) ∨ ∃ l1 b l2, l = l1 ++ b :: l2 ∧ b.f2 = p ∧ (∀ x ∈ l1, x.f2 ≠ p) ∧ idxP l p 0 = l1.length := by
 rcases idxP_add l p 0 (Int.le_refl _) with h | ⟨l1, b, l2, h1, h2, h3, h4⟩
 ·exact Or.inl h
 ·exact Or.inr ⟨l1, b, l2, h1, h2, h3, by rw [h4]; omega⟩
def boxI (l : List S98) (p : Int) : Int := if 0 < p then idxP l p 0 else -1
theorem box_loop (h : Int) (fx : List Int) (bx : List S98) (hl : bx.length ≤ 1048576) (p : Int) : ∀ (rest : List S98) (i : Nat), bx.drop i = rest → i ≤ bx.length → Ev (fun k => spec_l02Box.l0 k p (i : Int) h fx bx) (if 0 < p then idxP rest p (i : Int) else -1)
 | [], i, hd, hi => by
  have he := drop_end hd hi
  refine Ev.succ ?_
  simp only [spec_l02Box.l0]
  refine Ev.neg (by omega) ?_
  refine Ev.to (Ev.ret _) ?_
  simp [idxP]
 | b :: rest, i, hd, hi => by
  obtain ⟨h1, h2, h3⟩ := drop_step z98 hd
  have er : rd_T98 bx (i : Int) = b := h2
  have ih := box_loop h fx bx hl p rest (i + 1) h3 (by omega)
  refine Ev.succ ?_
  simp only [spec_l02Box.l0, er]
  refine Ev.pos (by omega) ?_
  refine Ev.pos (by omega) ?_
  rw [wsucc i (by omega)]
  by_cases c : b.f2 = p
  ·refine Ev.pos c ?_
   by_cases d : p > 0
   ·refine Ev.pos d (Ev.to (Ev.ret _) ?_)
    rw [if_pos d]
    simp only [idxP]
    rw [if_pos c]
   ·refine Ev.neg d (Ev.to ih ?_)
    rw [if_neg d, if_neg d]
  ·refine Ev.neg c (Ev.to ih ?_)
   simp only [idxP]
   rw [if_neg c]
   rfl
theorem box_ev (h : Int) (fx : List Int) (bx : List S98) (hl : bx.length ≤ 1048576) (p : Int) : Ev (fun k => spec_l02Box.f k h fx bx p) (boxI bx p) := by
 unfold spec_l02Box.f
 exact box_loop h fx bx hl p bx 0 rfl (by omega)
end Go.Proofs.Ytbpjidekjogfeaa.A
