/- Used by the law FnExactPlacesFor. -/
import Derived.Test.YtbpjidekjogfeaaZFnExactPlacesForx12
import Derived.Test.YtbpjidekjogfeaaZFnExactPlacesForx15
import Derived.Test.YtbpjidekjogfeaaZFnExactPlacesForx14
import Derived.Test.YtbpjidekjogfeaaZFnExactPlacesForx16
import Derived.Test.YtbpjidekjogfeaaZFnExactPlacesForx17
import Derived.Test.YtbpjidekjogfeaaZFnExactPlacesForx19
import Derived.Test.YtbpjidekjogfeaaZFnExactPlacesForh
namespace Go.Proofs.Ytbpjidekjogfeaa.A
open Go.RowKit Go.Proofs.YtbpjidekjogfeaaW.PrintWords Go.Proofs.YtbpjidekjogfeaaW.PrintLast Go.Proofs.YtbpjidekjogfeaaW.PrintMore
attribute [local go_sem] max2_int min2_int max_two min_two max_three min_three max_four min_four   
set_option linter.unusedVariables false
set_option linter.unusedSimpArgs false
mutual
def impl_spread.l0 : Nat → List Int → List Int → Int → Int → List Int → Option (List Int × Bool × List Int)
 | 0, _, _, _, _, _ => none
 | k + 1, x0, x1, x16, x17, tr => if x17 < x16 then (if 0 ≤ x17 then (if x17 < (x0.length : Int) then (if ((-9223372036854775808 ≤ rd x0 x17 ∧ rd x0 x17 ≤ 9223372036854775807) ∧ tr.length < 1048576) then (if 0 < (x1.length : Int) then (if (rd x0 x17) < (rd x1 0) then (impl_spread.j1 k x0 x1 x17 x16 x17 true tr) else (impl_spread.j1 k x0 x1 x17 x16 x17 (decide (rd x0 x17 ∈ tr)) tr)) else (none)) else (none)) else (none)) else (none)) else (some (([] : List Int), false, x0))
def impl_spread.j1 : Nat → List Int → List Int → Int → Int → Int → Bool → List Int → Option (List Int × Bool × List Int)
 | 0, _, _, _, _, _, _, _ => none
 | k + 1, x0, x1, x7, x16, x17, x31, tr => if x31 = true then (impl_spread.l0 k x0 x1 x16 (wrap64 (x17 + 1)) tr) else (if 0 ≤ x7 then (if x7 < (x0.length : Int) then (if 0 < (x1.length : Int) then ((impl_spread.f k (x0.set (x7 : Int).toNat (wrap64 ((rd x0 x7) - (rd x1 0)))) (x1.drop 1)).bind fun bt323 => ((some (bt323.2.2.set (x7 : Int).toNat (wrap64 ((rd bt323.2.2 x7) + (rd x1 0))) : List Int)).bind fun y330 => (if bt323.2.1 = true then ((some (([x7] : List Int) : List Int)).bind fun y331 => (if y331.length + bt323.1.length < 17592186044416 then (some ((y331 ++ bt323.1), true, y330)) else (none))) else (impl_spread.l0 k y330 x1 x16 (wrap64 (x17 + 1)) ((rd x0 x7) :: tr))))) else (none)) else (none)) else (none))
def impl_spread.f : Nat → List Int → List Int → Option (List Int × Bool × List Int)
 | 0, _, _ => none
 | k + 1, l0, l1 => if (l1.length : Int) = 0 then (some (([] : List Int), true, l0)) else (impl_spread.l0 k l0 l1 (l0.length : Int) 0 [])
end
theorem MapSet.kept_ {P : Program} {k e : TypeId} {w w1 w0 : World} {b n : Nat} {S : List Int} {v : Value} (h : MapSet P k e w b S) (hB : Below n w0 w) (hB' : Below n w0 w1) (hk : Kept w w1 (fun k_ => some k_ = v.ownBlock)) (hne : some b ≠ v.ownBlock) : MapSet P k e w1 b S :=
 h.kept ⟨hB'.os.trans hB.os.symm, hB'.tape.trans hB.tape.symm, hB'.output.trans hB.output.symm, hk.1, fun k hlt hn => hk.2 k hlt hn⟩ hne
def impl_spread.T9 : Bool × List (List Nat × List Nat) := (true, [([], []), ([], []), ([0, 1], [0, 1]), ([2], [2]), ([], []), ([4], [4]), ([5], [5]), ([3, 6], [3, 6]), ([0, 1, 0, 1, 2, 3, 4, 5, 6, 7], [0, 1]), ([8, 7, 0, 1, 2, 3, 4, 5, 6, 7], [7, 8])])
def impl_spread.B9 : List Nat := [0, 0, 3, 7, 0, 16, 48, 127, 255, 511]
theorem impl_spread.tab9 : rtab .any (opsOf Try.f105 9) = impl_spread.T9 := by kernel_rfl
theorem impl_spread.bits9 : waitsOk impl_spread.T9.2 impl_spread.B9 = true := by kernel_rfl
def impl_spread.T11 : Bool × List (List Nat × List Nat) := (true, [([], []), ([], []), ([0, 1], [0, 1]), ([2], [2]), ([], []), ([4], [4]), ([5], [5]), ([3, 6], [3, 6]), ([0, 1, 0, 1, 2, 3, 4, 5, 6, 7], [0, 1]), ([8, 7, 0, 1, 2, 3, 4, 5, 6, 7], [7, 8])])
def impl_spread.B11 : List Nat := [0, 0, 3, 7, 0, 16, 48, 127, 255, 511]
theorem impl_spread.tab11 : rtab .any (opsOf Try.f105 11) = impl_spread.T11 := by kernel_rfl
theorem impl_spread.bits11 : waitsOk impl_spread.T11.2 impl_spread.B11 = true := by kernel_rfl
set_option maxHeartbeats 8000000 in
set_option maxRecDepth 100000 in
theorem impl_spread.calls (k : Nat) : ∀ (P0_ : Nat → Prop) (u9000_ : Value) (l0 : List Int) (A1 : Option Addr) (c1 : Nat) (l1 : List Int) (r1 : List Int) (r2 : Bool) (r3 : List Int) (w0 w : World) (hB : Below w0.heap.size w0 w) (ho0 : Kd.R (Kd.int .i64) 3 w w0.heap.size P0_ u9000_ l0) (hr1 : ∀ W_, Kept w W_ (fun k_ => P0_ k_) → Kd.C (Kd.int .i64) W_ A1 l1.length l1) (hc1 : l1.length ≤ c1) (h : impl_spread.f k l0 l1 = some (r1, r2, r3)),
  Calls Try.prog 105 #[u9000_, .slice A1 l1.length c1] w fun e w' => ∃ v0_ : Value, e = .returned (.tuple #[v0_, .bool r2]) ∧ Kd.R (Kd.int .i64) 3 w' w0.heap.size (fun k_ => (P0_ k_ ∨ w.heap.size ≤ k_) ∧ some k_ ≠ (u9000_ : Value).ownBlock) v0_ r1 ∧ Kd.R (Kd.int .i64) 3 w' w0.heap.size (fun k_ => (P0_ k_ ∨ w.heap.size ≤ k_)) u9000_ r3 ∧ Below w0.heap.size w0 w' ∧ Kept w w' (fun k_ => P0_ k_) := by
 induction k using Nat.strongRecOn with
 | _ k ih =>
 intro P0_ u9000_ l0 A1 c1 l1 r1 r2 r3 w0 w hB ho0 hr1 hc1 h
 cases k with
 | zero => exact absurd h (by simp [impl_spread.f])
 | succ k =>
 simp only [impl_spread.f] at h
 have HO0 := Aside0.mk (show Kd.R (Kd.int .i64) 3 w w0.heap.size (fun k_ => (P0_ k_ ∨ w.heap.size ≤ k_)) u9000_ l0 from Kd.R_mono ho0 (fun k_ hk => (.inl hk)))
 have HR1 := Aside0.mk hr1
 have HC1 := Aside0.mk hc1
 clear hr1 hc1
 have HK := Aside0.mk (Kept.refl w (fun k_ => P0_ k_))
 have HW0 := Aside0.mk hB.size
 have HB := Aside0.mk hB
 clear hB
 have H : (if (l1.length : Int) = 0 then (some (([] : List Int), true, l0)) else (impl_spread.l0 k l0 l1 (l0.length : Int) 0 [])) = some (r1, r2, r3) := h
 clear h
 by_cases c3 : (l1.length : Int) = 0
 ·rw [if_pos c3] at H
  have c3b0 : ((l1.length : Int) == 0) = true := beq_iff_eq.mpr c3
  have c3b1 : ((l1.length : Int) != 0) = false := bne_eq_false_iff_eq.mpr c3
  clear c3
  simp only [Option.some.injEq, Prod.mk.injEq] at H
  obtain ⟨rfl, rfl, rfl⟩ := H
  go_enter Try.func105, Try.ntmps105
  go_wp2
  go_ret2
  exact ⟨_, by first | rfl | (simp [errW_none, errW_some] <;> rfl) | (simp [*, errW_none, errW_some] <;> rfl), by first | exact Kd.R_nil _ _ _ _ _ | exact Kd.N_nil _ _ _ _ _ | exact Kd.V_nil _ _ _ _ _ | exact Kd.Q_nil _ _ _ _ _ | exact Kd.S_nil _ _ _ _ _, rk HO0.out, bl HB.out, by repeat (first | (with_reducible first | exact HK.out | apply Kept.alloc | apply Kept.drewN | apply Kept.drew) | exact HK.out)⟩
 ·rw [if_neg c3] at H
  have c3b0 : ((l1.length : Int) == 0) = false := beq_eq_false_iff_ne.mpr c3
  have c3b1 : ((l1.length : Int) != 0) = true := bne_iff_ne.mpr c3
  have c3b2 : ¬ (l1 = []) := fun h_ => c3 (by rw [h_]; rfl)
  have H' := Aside0.mk H
  clear H
  obtain ⟨Ao4, co4, eo4⟩ := Kd.R_slice HO0.out
  subst eo4
  have HOW := HO0
  have hzero : ∀ W : World, (zeroValue 4).run Try.prog W = .ok (.bool false) W := fun W => by kernel_rfl
  go_enter Try.func105, Try.ntmps105
  go_wp2_with (first | ((with_reducible refine gate_dst (N := 14) rfl ?_); refine map_event 3 4 ?hg (N := 14) ?hd 100 ?ho ?_; (case hd => rfl); (case hg => rfl); (case ho => rfl); intro b3 hg w3 hm hb; have M := Aside0.mk hm; have G3 := Aside0.mk (by rw [hg]; exact (show Kept w _ (fun k_ => P0_ k_) from by repeat (first | (with_reducible first | exact HK.out | apply Kept.alloc | apply Kept.drewN | apply Kept.drew) | exact HK.out)).1 : w.heap.size ≤ b3); have n0_ := Aside0.mk (Kd.R_below (rk HO0.out) hb); have n1_ := Aside0.mk (Kept.below (by repeat (first | (with_reducible first | exact HK.out | apply Kept.alloc | apply Kept.drewN | apply Kept.drew) | exact HK.out)) hb); have n2_ := Aside0.mk (below_step (bl HB.out) hb); clear HO0 HK HB; have HO0 := n0_; have HK : Aside0 (Kept w w3 (fun k_ => P0_ k_)) := n1_; have HB : Aside0 (Below w0.heap.size w0 w3) := n2_; clear n0_ n1_ n2_ hm hb hg))
  go_loopg [17] k (fun kq v17 w' => ∃ (x0_1 : List Int) (x17_1 : Int) (tr : List Int), v17 = .int .i64 x17_1 ∧ Aside0 (impl_spread.l0 kq x0_1 l1 (l0.length : Int) x17_1 tr = some (r1, r2, r3)) ∧ Aside0 (kq ≤ k) ∧ Aside0 (Kd.R (Kd.int .i64) 3 w' w0.heap.size (fun k_ => (P0_ k_ ∨ w.heap.size ≤ k_)) (.slice Ao4 l0.length co4) x0_1) ∧ Aside0 (Kept w w' (fun k_ => P0_ k_)) ∧ Aside0 (Below w0.heap.size w0 w') ∧ Aside0 (MapSet Try.prog 3 4 w' b3 tr))
  case atStart => exact ⟨(l0), (0), [], (by first | rfl | (simp; done) | (simp [*]; done)), H', ⟨Nat.le_refl _⟩, ⟨rk HO0.out⟩, ⟨by repeat (first | (with_reducible first | exact HK.out | apply Kept.alloc | apply Kept.drewN | apply Kept.drew) | exact HK.out)⟩, ⟨bl HB.out⟩, ⟨by repeat (first | exact M.out | exact (Nat.ne_of_lt NB.out).symm | apply MapSet.drewN | apply MapSet.drew | apply MapSet.alloc | refine MapSet.setCell ?_ ?_ _)⟩⟩
  case round =>
   clear H'
   try clear c1
   try clear p2
   try clear c3
   try clear c3b0
   try clear c3b1
   try clear c3b2
   clear M HO0 HK HB
   obtain ⟨x0_1, x17_1, tr, rfl, HA, HK1, HO_0, HK, HB, M⟩ := hrel
   have hl0_1 := (Kd.R_reads' HO_0.out).1
   rw [hl0_1] at HO_0
   (try simp only [hl0_1])
   cases gk with
   | zero => exact absurd HA.out (by simp [impl_spread.l0])
   | succ k1 =>
    have H := HA.out
    clear HA
    simp only [impl_spread.l0] at H
    by_cases c5 : x17_1 < (l0.length : Int)
    ·rw [if_pos c5] at H
     have c5b0 : decide (x17_1 < (l0.length : Int)) = true := decide_eq_true c5
     clear c5
     by_cases c6 : 0 ≤ x17_1
     ·rw [if_pos c6] at H
      have c6b0 : decide (0 ≤ x17_1) = true := decide_eq_true c6
      clear c6
      by_cases c7 : x17_1 < (x0_1.length : Int)
      ·rw [if_pos c7] at H
       have c7b0 : decide (x17_1 < (x0_1.length : Int)) = true := decide_eq_true c7
       clear c7
       have LG : Aside0 ((-9223372036854775808 ≤ rd x0_1 x17_1 ∧ rd x0_1 x17_1 ≤ 9223372036854775807) ∧ tr.length < 1048576) := ⟨by by_cases cG : ((-9223372036854775808 ≤ rd x0_1 x17_1 ∧ rd x0_1 x17_1 ≤ 9223372036854775807) ∧ tr.length < 1048576); exact cG; rw [if_neg cG] at H; exact absurd H (by simp)⟩
       rw [if_pos LG.out] at H
       have HC8 := Aside0.mk H
       clear H
       have p318 : 0 ≤ (x17_1 : Int) := of_decide_eq_true asm
       have q318 : x17_1 < (x0_1.length : Int) := of_decide_eq_true asm
       obtain ⟨ad318, e318, hx318_0⟩ := Kd.at_int (Kd.R_reads' HO_0.out).2.2 x17_1 p318 q318
       cases e318
       have NB : Aside0 (ad318.block < b3) := ⟨by
        obtain ⟨g_, cap_, e_, _, hl_, _⟩ := Kd.R_form HOW.out (by omega)
        injection e_ with e1_ _ _
        injection e1_ with e1_
        rw [e1_]
        exact Nat.lt_of_lt_of_le hl_ G3.out⟩
       replace p318 := eq_true p318
       replace q318 := eq_true q318
       go_upto_region 7 with (fail)
       go_cut [31] (fun v31 wc => ∃ (kq : Nat) (x31_7 : Bool), v31 = .bool x31_7 ∧ Aside0 (impl_spread.j1 kq x0_1 l1 x17_1 (l0.length : Int) x17_1 x31_7 tr = some (r1, r2, r3)) ∧ Aside0 (kq ≤ k1) ∧ Aside0 (Kd.R (Kd.int .i64) 3 wc w0.heap.size (fun k_ => (P0_ k_ ∨ w.heap.size ≤ k_)) (.slice (some ad318) x0_1.length co4) x0_1) ∧ Aside0 (Kept w wc (fun k_ => P0_ k_)) ∧ Aside0 (Below w0.heap.size w0 wc) ∧ Aside0 (MapSet Try.prog 3 4 wc b3 tr))
       case first =>
        have H := HC8.out
        clear HC8
        by_cases c9 : 0 < (l1.length : Int)
        ·rw [if_pos c9] at H
         have c9b0 : decide (0 < (l1.length : Int)) = true := decide_eq_true c9
         have c9b1 : decide (0 < l1.length) = true := decide_eq_true (by omega)
         clear c9
         (first | rw [c9b0] | (simp only [i64_w, i32_w]; rw [c9b0]) | skip)
         by_cases c10 : (rd x0_1 x17_1) < (rd l1 0)
         ·rw [if_pos c10] at H
          have c10b0 : decide ((rd x0_1 x17_1) < (rd l1 0)) = true := decide_eq_true c10
          clear c10
          have H' := Aside0.mk H
          clear H
          have p319 : 0 ≤ (0 : Int) := (by omega)
          have q319 : 0 < (l1.length : Int) := of_decide_eq_true asm
          obtain ⟨ad319, e319, hx319_0⟩ := Kd.at_int (Kd.C_kept_now HR1.out HK.out) 0 p319 q319
          cases e319
          have qi319 : (0 < l1.length) = True := eq_true (by omega)
          (try rw [show ((0 : Int)).toNat = 0 from rfl] at hx319_0)
          (try rw [Addr.add_zero'] at hx319_0)
          replace p319 := eq_true p319
          replace q319 := eq_true q319
          go_wp2
          go_meet
          case rel => exact ⟨_, (true), (by first | rfl | (simp; done) | (simp [*]; done)), H', ⟨by have := HK1.out; first | omega | exact Nat.le_refl _⟩, ⟨by (try simp only [hl0_1]); refine rk ?_; exact HO_0.out⟩, ⟨by repeat (first | (with_reducible first | exact HK.out | apply Kept.alloc | apply Kept.drewN | apply Kept.drew) | exact HK.out)⟩, ⟨bl HB.out⟩, ⟨by repeat (first | exact M.out | exact (Nat.ne_of_lt NB.out).symm | apply MapSet.drewN | apply MapSet.drew | apply MapSet.alloc | refine MapSet.setCell ?_ ?_ _)⟩⟩
         ·rw [if_neg c10] at H
          have c10b0 : decide ((rd x0_1 x17_1) < (rd l1 0)) = false := decide_eq_false c10
          have hlk := MapSet.look M.out Try.underlying3 Try.underlying4 Try.underlying100 (hzero _) (rd x0_1 x17_1) (int_wf (by have := LG.out; omega))
          clear c10
          have H' := Aside0.mk H
          clear H
          have p319 : 0 ≤ (0 : Int) := (by omega)
          have q319 : 0 < (l1.length : Int) := of_decide_eq_true asm
          obtain ⟨ad319, e319, hx319_0⟩ := Kd.at_int (Kd.C_kept_now HR1.out HK.out) 0 p319 q319
          cases e319
          have qi319 : (0 < l1.length) = True := eq_true (by omega)
          (try rw [show ((0 : Int)).toNat = 0 from rfl] at hx319_0)
          (try rw [Addr.add_zero'] at hx319_0)
          replace p319 := eq_true p319
          replace q319 := eq_true q319
          go_wp2
          go_meet
          case rel => exact ⟨_, (decide (rd x0_1 x17_1 ∈ tr)), (by first | rfl | (simp; done) | (simp [*]; done)), H', ⟨by have := HK1.out; first | omega | exact Nat.le_refl _⟩, ⟨by (try simp only [hl0_1]); refine rk ?_; exact HO_0.out⟩, ⟨by repeat (first | (with_reducible first | exact HK.out | apply Kept.alloc | apply Kept.drewN | apply Kept.drew) | exact HK.out)⟩, ⟨bl HB.out⟩, ⟨by repeat (first | exact M.out | exact (Nat.ne_of_lt NB.out).symm | apply MapSet.drewN | apply MapSet.drew | apply MapSet.alloc | refine MapSet.setCell ?_ ?_ _)⟩⟩
        ·rw [if_neg c9] at H
         exact absurd H (by simp)
       case rest =>
        clear HC8
        try clear c1
        try clear p2
        try clear c3
        try clear c3b0
        try clear c3b1
        try clear c3b2
        try clear p3
        try clear q3
        try clear hx3
        try clear qi3
        try clear c5
        try clear c5b0
        try clear c6
        try clear c6b0
        try clear c7
        try clear c7b0
        try clear c9
        try clear c9b0
        try clear c9b1
        try clear c10
        try clear c10b0
        try clear hx318_0
        try clear hx319_0
        try clear p2
        try clear p318
        try clear p319
        try clear q318
        try clear q319
        clear M HO_0 HK HB
        obtain ⟨kq, x31_7, rfl, HA, HJ7, HO_0, HK, HB, M⟩ := hcut
        cases kq with
        | zero => exact absurd HA.out (by simp [impl_spread.j1])
        | succ kj7 =>
         have H := HA.out
         clear HA
         simp only [impl_spread.j1] at H
         by_cases c11 : x31_7 = true
         ·subst c11
          rw [if_pos rfl] at H
          have H' := Aside0.mk H
          clear H
          go_wp2
          (try simp only [← hl0_1])
          go_roundg kj7
          case measure => have := HK1.out; have := HJ7.out; omega
          case rel => exact ⟨(x0_1), (wrap64 (x17_1 + 1)), tr, (by first | rfl | (simp; done) | (simp [*]; done)), H', ⟨by have := HK1.out; have := HJ7.out; omega⟩, ⟨by (try simp only [hl0_1]); refine rk ?_; exact HO_0.out⟩, ⟨by repeat (first | (with_reducible first | exact HK.out | apply Kept.alloc | apply Kept.drewN | apply Kept.drew) | exact HK.out)⟩, ⟨bl HB.out⟩, ⟨by repeat (first | exact M.out | exact (Nat.ne_of_lt NB.out).symm | apply MapSet.drewN | apply MapSet.drew | apply MapSet.alloc | refine MapSet.setCell ?_ ?_ _)⟩⟩
         ·replace c11 := Bool.eq_false_iff.mpr c11
          subst c11
          rw [if_neg (show ¬ (false = true) by decide)] at H
          by_cases c12 : 0 ≤ x17_1
          ·rw [if_pos c12] at H
           have c12b0 : decide (0 ≤ x17_1) = true := decide_eq_true c12
           clear c12
           by_cases c13 : x17_1 < (x0_1.length : Int)
           ·rw [if_pos c13] at H
            have c13b0 : decide (x17_1 < (x0_1.length : Int)) = true := decide_eq_true c13
            clear c13
            by_cases c14 : 0 < (l1.length : Int)
            ·rw [if_pos c14] at H
             have c14b0 : decide (0 < (l1.length : Int)) = true := decide_eq_true c14
             have c14b1 : decide (0 < l1.length) = true := decide_eq_true (by omega)
             clear c14
             obtain ⟨y322, hy322⟩ : ∃ y_ : List Int, y_ = (x0_1.set (x17_1 : Int).toNat (wrap64 ((rd x0_1 x17_1) - (rd l1 0)))) := ⟨_, rfl⟩
             replace H : ((impl_spread.f kj7 y322 (l1.drop 1)).bind fun bt323 => ((some (bt323.2.2.set (x17_1 : Int).toNat (wrap64 ((rd bt323.2.2 x17_1) + (rd l1 0))) : List Int)).bind fun y330 => (if bt323.2.1 = true then ((some (([x17_1] : List Int) : List Int)).bind fun y331 => (if y331.length + bt323.1.length < 17592186044416 then (some ((y331 ++ bt323.1), true, y330)) else (none))) else (impl_spread.l0 kj7 y330 l1 (l0.length : Int) (wrap64 (x17_1 + 1)) ((rd x0_1 x17_1) :: tr))))) = some (r1, r2, r3) := by first | (rw [hy322]; with_reducible exact H) | (have H2_ := (Option.bind_some _ _).symm.trans H; rw [hy322]; with_reducible exact H2_) | (have H2_ := (Option.bind_some _ _).symm.trans H; with_reducible exact H2_) | with_reducible exact H | (rw [hy322]; exact H) | exact H
             have Ny322 := Aside0.mk hy322
             clear hy322
             replace H := Option.bind_eq_some_iff.mp H
             obtain ⟨⟨t323, t326, t327⟩, A160, H⟩ := H
             try dsimp only at H
             have A16 := Aside0.mk A160
             clear A160
             obtain ⟨y330, hy330⟩ : ∃ y_ : List Int, y_ = (t327.set (x17_1 : Int).toNat (wrap64 ((rd t327 x17_1) + (rd l1 0)))) := ⟨_, rfl⟩
             replace H : (if t326 = true then ((some (([x17_1] : List Int) : List Int)).bind fun y331 => (if y331.length + t323.length < 17592186044416 then (some ((y331 ++ t323), true, y330)) else (none))) else (impl_spread.l0 kj7 y330 l1 (l0.length : Int) (wrap64 (x17_1 + 1)) ((rd x0_1 x17_1) :: tr))) = some (r1, r2, r3) := by first | (rw [hy330]; with_reducible exact H) | (have H2_ := (Option.bind_some _ _).symm.trans H; rw [hy330]; with_reducible exact H2_) | (have H2_ := (Option.bind_some _ _).symm.trans H; with_reducible exact H2_) | with_reducible exact H | (rw [hy330]; exact H) | exact H
             have Ny330 := Aside0.mk hy330
             clear hy330
             by_cases c18 : t326 = true
             ·subst c18
              rw [if_pos rfl] at H
              obtain ⟨y331, hy331⟩ : ∃ y_ : List Int, y_ = (([x17_1] : List Int)) := ⟨_, rfl⟩
              replace H : (if y331.length + t323.length < 17592186044416 then (some ((y331 ++ t323), true, y330)) else (none)) = some (r1, r2, r3) := by first | (rw [hy331]; with_reducible exact H) | (have H2_ := (Option.bind_some _ _).symm.trans H; rw [hy331]; with_reducible exact H2_) | (have H2_ := (Option.bind_some _ _).symm.trans H; with_reducible exact H2_) | with_reducible exact H | (rw [hy331]; exact H) | exact H
              have Ny331 := Aside0.mk hy331
              clear hy331
              by_cases c19 : y331.length + t323.length < 17592186044416
              ·rw [if_pos c19] at H
               have LMc19 := Aside0.mk c19
               clear c19
               obtain ⟨y334, hy334⟩ : ∃ y_ : List Int, y_ = (y331 ++ t323) := ⟨_, rfl⟩
               replace H : (some (y334, true, y330)) = some (r1, r2, r3) := by first | (rw [hy334]; with_reducible exact H) | (have H2_ := (Option.bind_some _ _).symm.trans H; rw [hy334]; with_reducible exact H2_) | (have H2_ := (Option.bind_some _ _).symm.trans H; with_reducible exact H2_) | with_reducible exact H | (rw [hy334]; exact H) | exact H
               have Ny334 := Aside0.mk hy334
               clear hy334
               simp only [Option.some.injEq, Prod.mk.injEq] at H
               obtain ⟨rfl, rfl, rfl⟩ := H
               go_wp2_with (first | (refine wpList_putSet _ rfl (.tmp 32) (.tmp 33) (.const (.bool true)) 100 rfl Try.underlying3 Try.underlying4 Try.underlying100 b3 tr rfl M.out (by have := LG.out; unfold maxLen; omega) (rd x0_1 x17_1) rfl rfl (int_wf (by have := LG.out; omega)) ?_; intro w10 p2_ p3_; have n7_ := Kd.R_tight (d := Kd.int .i64) rfl HO_0.out; have n8_ := Kd.R_grown n7_ p3_ (fun k_ e_ h_ => by have e2_ : k_ = ad318.block := Option.some.inj e_; have h2_ : k_ = b3 := Option.some.inj h_; have := NB.out; omega); have n0_ := Aside0.mk (Kd.R_reok (d := Kd.int .i64) (ok := fun k_ => (P0_ k_ ∨ w.heap.size ≤ k_)) rfl n8_ (fun k_ e_ => HO_0.out.1 k_ e_)); clear n7_ n8_; have n1_ := Aside0.mk (Kept.of_grown (S := fun k_ => P0_ k_) p3_ HK.out (fun k_ e_ => .inr (by have e2_ : b3 = k_ := Option.some.inj e_; rw [← e2_]; exact G3.out))); have n2_ := Aside0.mk (pw_below_grown HB.out (some b3) HB.out.size p3_ (fun k e => by have e2_ : b3 = k := Option.some.inj e; rw [← e2_]; exact Nat.le_trans HW0.out G3.out)); have n3_ := Aside0.mk p2_; clear HO_0 HK HB M; have HO_0 := n0_; have HK := n1_; have HB := n2_; have M := n3_; clear n0_ n1_ n2_ n3_ p2_ p3_))
               replace HO_0 := Aside0.mk (Kd.R_drew HO_0.out)
               replace HK := Aside0.mk (Kept.drew HK.out)
               replace HB := Aside0.mk (below_drew1 HB.out)
               replace M := Aside0.mk (MapSet.drew M.out)
               have p320 : 0 ≤ (x17_1 : Int) := of_decide_eq_true asm
               have q320 : x17_1 < (x0_1.length : Int) := of_decide_eq_true asm
               obtain ⟨ad320, e320, hx320_0⟩ := Kd.at_int (Kd.R_reads' HO_0.out).2.2 x17_1 p320 q320
               obtain rfl : ad318 = ad320 := (by injection e320)
               replace p320 := eq_true p320
               replace q320 := eq_true q320
               have p321 : 0 ≤ (0 : Int) := (by omega)
               have q321 : 0 < (l1.length : Int) := of_decide_eq_true asm
               obtain ⟨ad321, e321, hx321_0⟩ := Kd.at_int (Kd.C_kept_now HR1.out HK.out) 0 p321 q321
               have hw321_0 := hx321_0
               (try rw [show ((0 : Int)).toNat = 0 from rfl] at hw321_0)
               (try rw [show 0 * 1 = 0 from rfl] at hw321_0)
               (try rw [Addr.add_zero'] at hw321_0)
               cases e321
               have qi321 : (0 < l1.length) = True := eq_true (by omega)
               (try rw [show ((0 : Int)).toNat = 0 from rfl] at hx321_0)
               (try rw [Addr.add_zero'] at hx321_0)
               replace p321 := eq_true p321
               replace q321 := eq_true q321
               have p15 : 0 ≤ (x17_1 : Int) := of_decide_eq_true asm
               have q15 : (x17_1 : Int) < ((x0_1.length : Int) : Int) := of_decide_eq_true asm
               obtain ⟨go15, co15, eo15, gb15, gl15, cl15, HG15⟩ := Kd.R_form HO_0.out (by omega)
               (first | cases eo15 | (injection eo15 with ea_ en_ ec_; (first | subst ea_ | (injection ea_ with ea_; subst ea_)); subst ec_; clear en_))
               have GB15 := Aside0.mk gb15
               have GG15 := Aside0.mk HG15
               clear gb15 gl15 HG15
               have HMgo15 := Aside0.mk (show (P0_ go15 ∨ w.heap.size ≤ go15) from (HO_0.out.1 _ rfl))
               (first | simp only [add_plain] at hx318_0 | skip)
               (first | simp only [add_plain] at hx320_0 | skip)
               obtain ⟨hx15_0, hf15_0⟩ := Kd.R_celln 0 HO_0.out (x17_1 : Int) p15 q15
               replace p15 := eq_true p15
               replace q15 := eq_true q15
               have HP21 := Kd.R_putn HO_0.out (x17_1 : Int) (wrap64 ((rd x0_1 x17_1) - (rd l1 0)))
               rw [← Ny322.out] at HP21
               have HQ21 := Aside0.mk HP21
               clear HP21
               refine start_ (n := 10) (S := fun w' => w'.cell? ⟨go15, (x17_1).toNat, none⟩ = some (.int .i64 (rd x0_1 x17_1)) ∧ w'.cell? ad321 = some (.int .i64 (rd l1 0))) (ds := [9]) #[false, false, false, false, false, false, false, false, false, false] (by kernel_rfl) rfl rfl ⟨hx320_0, (by have h_ := Kd.foot_int (HR1.out _ (by repeat (first | exact HK.out | apply Kept.alloc | apply Kept.drewN | apply Kept.drew | refine Kept.setCell ?_ HMgo15.out _))) (0 : Int) (of_eq_true p321) (of_eq_true q321); rw [show ((0 : Int)).toNat = 0 from rfl, Addr.add_zero'] at h_; exact h_)⟩ (fun hHeld => ?_); refine with_tabW impl_spread.tab9 impl_spread.bits9 (fun HT_ HW_ => ?_)
               generalize w10.drew = w20 at HO_0 HK HB GG15 HQ21 hf15_0 hx15_0 hx320_0 hx321_0 M hHeld ⊢
               refine puA (i := 0) (N := some 34) HT_.out ?_
               refine puA (i := 1) (N := some 35) HT_.out ?_
               refine puA (i := 2) (N := some 36) HT_.out ?_
               refine puA (i := 4) (N := some 38) HT_.out ?_
               refine puA (i := 5) (N := some 39) HT_.out ?_
               refine tkA2 (i := 3) (N := some 37) HT_.out HW_.out hHeld ?_
               refine tkA2 (i := 6) (N := some 40) HT_.out HW_.out hHeld ?_
               refine puA (i := 7) (N := some 41) HT_.out ?_
               refine puA (i := 8) (N := some 42) HT_.out ?_
               refine last_ (i := 9) (N := none) #[true, true, true, true, true, true, true, true, true, true] rfl rfl (one_of HT_.out (by kernel_rfl)) (by decide) (fun K hK => ?_)
               refine skip_ (w1 := ?_) (by rfl) rfl ?_ ?_
               rotate_left
               ·go_simp
                rfl
               refine hK.out _ _ ?_
               clear hK K
               refine done_ (done_of HT_.out (by kernel_rfl)) ?_
               have n0_ : Aside0 (Kd.R (Kd.int .i64) 3 (w20.setCell ⟨go15, (x17_1 : Int).toNat, none⟩ (.int .i64 (wrap64 ((rd x0_1 x17_1) - (rd l1 0))))) w0.heap.size (fun k_ => (P0_ k_ ∨ w.heap.size ≤ k_)) (.slice (some ⟨go15, 0, none⟩) x0_1.length co4) y322) := ⟨rk HQ21.out⟩
               have n1_ : Aside0 (Kept w (w20.setCell ⟨go15, (x17_1 : Int).toNat, none⟩ (.int .i64 (wrap64 ((rd x0_1 x17_1) - (rd l1 0))))) (fun k_ => P0_ k_)) := ⟨by repeat (first | (with_reducible first | exact HK.out | apply Kept.alloc | apply Kept.drewN | apply Kept.drew | refine Kept.setCell ?_ HMgo15.out _) | exact HK.out)⟩
               have n2_ : Aside0 (Below w0.heap.size w0 (w20.setCell ⟨go15, (x17_1 : Int).toNat, none⟩ (.int .i64 (wrap64 ((rd x0_1 x17_1) - (rd l1 0)))))) := ⟨by repeat (first | (with_reducible first | exact HB.out | apply below_alloc | apply pw_below_drewN | apply below_drew1 | refine below_set ?_ GB15.out) | exact HB.out)⟩
               (try clear HO_0)
               (try clear HK)
               (try clear HB)
               have nm_ : Aside0 (MapSet Try.prog 3 4 (w20.setCell ⟨go15, (x17_1 : Int).toNat, none⟩ (.int .i64 (wrap64 ((rd x0_1 x17_1) - (rd l1 0))))) b3 ((rd x0_1 x17_1) :: tr)) := ⟨by refine MapSet.setCell M.out ?_ _; exact (Nat.ne_of_lt NB.out).symm⟩
               clear M
               generalize (w20.setCell ⟨go15, (x17_1 : Int).toNat, none⟩ (.int .i64 (wrap64 ((rd x0_1 x17_1) - (rd l1 0))))) = w22 at n0_ n1_ n2_ nm_ ⊢
               have M := nm_
               clear nm_
               have HO_0 := n0_
               have HK := n1_
               have HB := n2_
               clear n0_ n1_ n2_
               have qs1 : (1 : Int) ≤ (l1.length : Int) := by have := of_eq_true q321; omega
               obtain ⟨i0c, hi0c, _, hszc, _⟩ := info_parts info3
               have hcutc := cut_from (P := Try.prog) 38 3 .i64 Try.underlying38 hi0c 1 hszc (some ad321) l1.length c1 1 (by omega) qs1
               obtain ⟨A9_, hA9⟩ : ∃ A1, A1 = (if c1 = (1 : Int).toNat then (some ad321) else ((some ad321) : Option Addr).map (·.add ((1 : Int).toNat * 1))) := ⟨_, rfl⟩
               obtain ⟨c9_, hc9⟩ : ∃ c, c = c1 - (1 : Int).toNat := ⟨_, rfl⟩
               have hy9 : (l1.drop 1).length = l1.length - (1 : Int).toNat := (by rw [List.length_drop] <;> rfl)
               rw [← hy9, ← hA9, ← hc9] at hcutc
               have KA9 := Aside0.mk hA9
               have KC9 := Aside0.mk hc9
               have KY9 := Aside0.mk hy9
               clear hA9 hc9 hy9 hi0c hszc qs1
               try go_wp2_with (first | ((with_reducible refine gate_callee (f := 105) rfl ?_); refine goesL_ (some 47) rfl rfl Try.func105 (by kernel_rfl) rfl #[.slice (some ⟨go15, 0, none⟩) x0_1.length co4, .slice A9_ (l1.drop 1).length c9_] rfl mapd ?_; (with_reducible refine (ih kj7 (by have := HK1.out; have := HJ7.out; omega) (fun k_ => some k_ = (.slice (some ⟨go15, 0, none⟩) x0_1.length co4 : Value).ownBlock) (.slice (some ⟨go15, 0, none⟩) x0_1.length co4) y322 _ _ (l1.drop 1) t323 true t327 w0 _ ?side1 ?side2 ?side3 ?side4 A16.out).mono ?_); (case side1 => repeat (first | (with_reducible first | exact HB.out | apply below_alloc | apply pw_below_drewN | apply below_drew1) | exact HB.out)); (case side2 => exact Kd.R_tight rfl HO_0.out); (case side3 => exact fun W_ h_ => by rw [KA9.out]; exact Kd.C_drop (c := c1) (m := (1 : Int).toNat) ((Kd.C_kept_call HR1.out (by repeat (first | (with_reducible first | exact HK.out | apply Kept.alloc | apply Kept.drewN | apply Kept.drew) | exact HK.out)) (fun k_ hs_ => (fun e_ => (HO_0.out.1 k_ e_.symm)) hs_)) W_ h_) (by have := of_eq_true q321; omega) HC1.out); (case side4 => rw [KY9.out, KC9.out]; exact Nat.sub_le_sub_right HC1.out _); rintro e w23 ⟨v324, rfl, ho0, hy0, hb, hkp⟩; refine ⟨_, rfl, ?_⟩; have nm_ := Aside0.mk (MapSet.kept_ (v := .slice (some ⟨go15, 0, none⟩) x0_1.length co4) (by repeat (first | exact M.out | apply MapSet.drewN | apply MapSet.drew)) (bl HB.out) hb hkp (fun e_ => (Nat.ne_of_lt NB.out).symm (Option.some.inj e_))); clear M; have M := nm_; clear nm_; have HO325 := Aside0.mk (Kd.R_mono (ok' := fun k_ => (P0_ k_ ∨ w.heap.size ≤ k_) ∧ some k_ ≠ (.slice (some ⟨go15, 0, none⟩) x0_1.length co4 : Value).ownBlock) ho0 (fun k_ hk_ => ⟨Or.elim hk_.1 (fun hs_ => (HO_0.out.1 k_ (hs_).symm)) (fun hn_ => (.inr (Nat.le_trans (by first | exact HK.out.1 | exact (show Kept w _ (fun k_ => P0_ k_) from by repeat (first | (with_reducible first | exact HK.out | apply Kept.alloc | apply Kept.drewN | apply Kept.drew) | exact HK.out)).1) hn_))), hk_.2⟩)); replace HK := Aside0.mk (Kept.then_ (S := (fun k_ => P0_ k_)) (by repeat (first | (with_reducible first | exact HK.out | apply Kept.alloc | apply Kept.drewN | apply Kept.drew) | exact HK.out)) hkp (fun k_ hs_ => (fun e_ => (HO_0.out.1 k_ e_.symm)) hs_)); replace HO_0 := Aside0.mk (Kd.R_reok rfl hy0 (fun k_ e_ => HO_0.out.1 k_ e_)); replace HB := Aside0.mk (hb); (try clear hb); (try clear hkp); (try clear ho0); (try clear hy0)))
               replace HO_0 := Aside0.mk (Kd.R_drew HO_0.out)
               replace HO325 := Aside0.mk (Kd.R_drew HO325.out)
               replace HK := Aside0.mk (Kept.drew HK.out)
               replace HB := Aside0.mk (below_drew1 HB.out)
               replace M := Aside0.mk (MapSet.drew M.out)
               have p328 : 0 ≤ (x17_1 : Int) := of_decide_eq_true asm
               have q328 : x17_1 < (t327.length : Int) := (by have h_ : (x17_1 : Int) < ((x0_1.length : Int) : Int) := of_decide_eq_true asm; have e_ := (Kd.R_reads' HO_0.out).1; omega)
               have ql328 : ((x17_1 : Int) < ((x0_1.length : Int) : Int)) = True := eq_true (of_decide_eq_true asm)
               obtain ⟨ad328, e328, hx328_0⟩ := Kd.at_int (Kd.R_reads' HO_0.out).2.2 x17_1 p328 q328
               obtain rfl : (⟨go15, 0, none⟩ : Addr) = ad328 := (by injection e328)
               (first | simp only [add_plain] at hx328_0 | simp only [add_at] at hx328_0 | simp only [Addr.add, Nat.zero_add] at hx328_0 | skip)
               replace p328 := eq_true p328
               replace q328 := eq_true q328
               have p329 : 0 ≤ (0 : Int) := (by omega)
               have q329 : 0 < (l1.length : Int) := of_decide_eq_true asm
               obtain ⟨ad329, e329, hx329_0⟩ := Kd.at_int (Kd.C_kept_now HR1.out HK.out) 0 p329 q329
               have hw329_0 := hx329_0
               (try rw [show ((0 : Int)).toNat = 0 from rfl] at hw329_0)
               (try rw [show 0 * 1 = 0 from rfl] at hw329_0)
               (try rw [Addr.add_zero'] at hw329_0)
               obtain rfl : ad321 = ad329 := (by injection e329)
               have qi329 : (0 < l1.length) = True := eq_true (by omega)
               (try rw [show ((0 : Int)).toNat = 0 from rfl] at hx329_0)
               (try rw [Addr.add_zero'] at hx329_0)
               replace p329 := eq_true p329
               replace q329 := eq_true q329
               have p17 : 0 ≤ (x17_1 : Int) := of_decide_eq_true asm
               have q17 : (x17_1 : Int) < ((x0_1.length : Int) : Int) := of_decide_eq_true asm
               obtain ⟨hx17_0, hf17_0⟩ := Kd.R_celln 0 HO_0.out (x17_1 : Int) p17 q17
               replace p17 := eq_true p17
               replace q17 := eq_true q17
               have HP25 := Kd.R_putn HO_0.out (x17_1 : Int) (wrap64 ((rd t327 x17_1) + (rd l1 0)))
               rw [← Ny330.out] at HP25
               have HQ25 := Aside0.mk HP25
               clear HP25
               refine start_ (n := 10) (S := fun w' => w'.cell? ⟨go15, (x17_1).toNat, none⟩ = some (.int .i64 (rd t327 x17_1)) ∧ w'.cell? ad321 = some (.int .i64 (rd l1 0))) (ds := [9]) #[false, false, false, false, false, false, false, false, false, false] (by kernel_rfl) rfl rfl ⟨hx328_0, (by have h_ := Kd.foot_int (HR1.out _ (by repeat (first | exact HK.out | apply Kept.alloc | apply Kept.drewN | apply Kept.drew | refine Kept.setCell ?_ HMgo15.out _))) (0 : Int) (of_eq_true p329) (of_eq_true q329); rw [show ((0 : Int)).toNat = 0 from rfl, Addr.add_zero'] at h_; exact h_)⟩ (fun hHeld => ?_); refine with_tabW impl_spread.tab11 impl_spread.bits11 (fun HT_ HW_ => ?_)
               generalize w23.drew = w24 at HO_0 HO325 HK HB HQ25 hf17_0 hx17_0 hx328_0 hx329_0 M hHeld ⊢
               refine puA (i := 0) (N := some 50) HT_.out ?_
               refine puA (i := 1) (N := some 51) HT_.out ?_
               refine puA (i := 2) (N := some 52) HT_.out ?_
               refine puA (i := 4) (N := some 54) HT_.out ?_
               refine puA (i := 5) (N := some 55) HT_.out ?_
               refine tkA2 (i := 3) (N := some 53) HT_.out HW_.out hHeld ?_
               refine tkA2 (i := 6) (N := some 56) HT_.out HW_.out hHeld ?_
               refine puA (i := 7) (N := some 57) HT_.out ?_
               refine puA (i := 8) (N := some 58) HT_.out ?_
               refine last_ (i := 9) (N := none) #[true, true, true, true, true, true, true, true, true, true] rfl rfl (one_of HT_.out (by kernel_rfl)) (by decide) (fun K hK => ?_)
               refine skip_ (w1 := ?_) (by rfl) rfl ?_ ?_
               rotate_left
               ·go_simp
                rfl
               refine hK.out _ _ ?_
               clear hK K
               refine done_ (done_of HT_.out (by kernel_rfl)) ?_
               try go_wp2_with (first | ((with_reducible refine gate_dst (N := 61) rfl ?_); refine Kd.R_lit (Kd.int .i64) _ 3 ?hg (N := 61) ?hd (xs := ([x17_1] : List Int)) (inner := [.int .i64 x17_1]) (ok := fun _ => True) (okp := fun _ => True) ?hr ?hp (fun _ hk => hk) trivial (Below.refl _ _) (Nat.le_refl _) (by simp) ?_; (case hd => rfl); (case hg => rfl); (case hr => first | (go_simp; done) | (go_simp; rfl)); (case hp => exact (Reps.one (show Kd.M (Kd.int .i64) _ _ _ x17_1 [.int .i64 x17_1] from rfl) (Reps.none _ _))); intro v332 w26 ho27 hb hg_ hnew_; clear hg_ hnew_; (first | rw [← Ny331.out] at ho27 | (simp only [Int.reduceToNat] at ho27; rw [← Ny331.out] at ho27)); replace HO_0 := Aside0.mk (Kd.R_elder' (rk HQ25.out) (Kd.R_base ho27) hb); have HO333 := Aside0.mk (Kd.R_lower (Kd.R_new' (Kd.R_new' (Kd.R_newM (M := fun k_ => (P0_ k_ ∨ w.heap.size ≤ k_)) ho27 (show Kept w _ (fun k_ => P0_ k_) from by repeat (first | (with_reducible first | exact HK.out | apply Kept.alloc | apply Kept.drewN | apply Kept.drew | refine Kept.setCell ?_ HMgo15.out _) | exact HK.out)).1 (fun k_ h_ => .inr h_)) (Kd.R_lt (rk HQ25.out))) (Kd.R_lt (by refine rk ?_; exact (Kd.R_mono (Kd.R_far (p := ⟨go15, (x17_1 : Int).toNat, none⟩) (Kd.R_mono HO325.out (fun k_ hk => (⟨hk, fun e_ => hk.2 (by rw [e_]; rfl)⟩ : _ ∧ k_ ≠ go15))) (fun _ hk => hk.2) (.int .i64 (wrap64 ((rd t327 x17_1) + (rd l1 0))))) (fun _ h_ => h_.1))))) (below_size (by repeat (first | (with_reducible first | exact HB.out | apply below_alloc | apply pw_below_drewN | apply below_drew1 | refine below_set ?_ GB15.out) | exact HB.out)))); replace HO325 := Aside0.mk (Kd.R_elder' (by refine rk ?_; exact (Kd.R_mono (Kd.R_far (p := ⟨go15, (x17_1 : Int).toNat, none⟩) (Kd.R_mono HO325.out (fun k_ hk => (⟨hk, fun e_ => hk.2 (by rw [e_]; rfl)⟩ : _ ∧ k_ ≠ go15))) (fun _ hk => hk.2) (.int .i64 (wrap64 ((rd t327 x17_1) + (rd l1 0))))) (fun _ h_ => h_.1))) (Kd.R_base ho27) hb); replace HK := Aside0.mk (Kept.below (S := (fun k_ => P0_ k_)) (by repeat (first | (with_reducible first | exact HK.out | apply Kept.alloc | apply Kept.drewN | apply Kept.drew | refine Kept.setCell ?_ HMgo15.out _) | exact HK.out)) hb); replace HB := Aside0.mk (below_step (by repeat (first | (with_reducible first | exact HB.out | apply below_alloc | apply pw_below_drewN | apply below_drew1 | refine below_set ?_ GB15.out) | exact HB.out)) hb); clear hb ho27; obtain ⟨Ao29, co29, eo29⟩ := Kd.R_slice HO325.out; subst eo29) | ((with_reducible refine gate_builtin (b := .append) (xs := #[.tmp 61, .tmp 62]) rfl ?_); at_builtin; refine Kd.R_append_rows (Kd.int .i64) (w0 := w0) w0.heap.size rfl (.tmp 61) (.tmp 62) 38 3 (.int .i64 0) 8 rfl Try.underlying38 info3 rfl (by decide) (by omega) v332 y331 t323 _ _ _ (fun k_ => (P0_ k_ ∨ w.heap.size ≤ k_) ∧ some k_ ≠ (.slice (some ⟨go15, 0, none⟩) x0_1.length co4 : Value).ownBlock ∧ some k_ ≠ (.slice Ao29 t323.length co29 : Value).ownBlock) (fun _ => False) rfl rfl ?aO ?aR (fun _ _ h => h) (fun _ h => h.elim) ?aF ?aB ?aS ?aL ?_; (case aR => exact cb ((Kd.R_reads' HO325.out).2.2)); (case aB => exact (bl HB.out)); (case aF => exact (fun k_ hk => ⟨(.inr (Nat.le_trans (by first | exact HK.out.1 | exact (show Kept w _ (fun k_ => P0_ k_) from by repeat (first | (with_reducible first | exact HK.out | apply Kept.alloc | apply Kept.drewN | apply Kept.drew) | exact HK.out)).1) hk)), Kd.fresh' (Kd.R_lt (rk HO_0.out)) k_ hk, Kd.fresh' (Kd.R_lt (rk HO325.out)) k_ hk⟩)); (case aO => exact (by refine rk ?_; exact Kd.R_mono HO333.out (fun _ hk => ⟨hk.1.1.1, ⟨hk.1.2, hk.2⟩⟩))); (case aS => exact (below_size (bl HB.out))); (case aL => have := LMc19.out; omega); intro v335 w28 ho hb hg hat; rw [← Ny334.out] at ho; replace HO_0 := Aside0.mk (Kd.R_after (ok := (fun k_ => (P0_ k_ ∨ w.heap.size ≤ k_))) (rk HO_0.out) hg hat); replace HO325 := Aside0.mk (Kd.R_after (ok := (fun k_ => (P0_ k_ ∨ w.heap.size ≤ k_) ∧ some k_ ≠ (.slice (some ⟨go15, 0, none⟩) x0_1.length co4 : Value).ownBlock)) (rk HO325.out) hg hat); replace HB := Aside0.mk (hb); replace HK := Aside0.mk (Kept.of_grown (S := (fun k_ => P0_ k_)) hg (by repeat (first | (with_reducible first | exact HK.out | apply Kept.alloc | apply Kept.drewN | apply Kept.drew) | exact HK.out)) (fun k_ e_ => (HO333.out.1 k_ e_).1.1.1)); have HO336 := Aside0.mk (ho); clear HO333; clear ho hb hg hat))
               go_ret2
               exact ⟨_, by first | rfl | (simp [errW_none, errW_some] <;> rfl) | (simp [*, errW_none, errW_some] <;> rfl), by refine rk ?_; exact Kd.R_mono HO336.out (fun _ hk => ⟨hk.1, hk.2.1⟩), (by first | exact (by refine rk ?_; exact Kd.R_mono HO_0.out (fun _ hk => hk.1)) | (simp only [hl0_1]; exact (by refine rk ?_; exact Kd.R_mono HO_0.out (fun _ hk => hk.1)))), bl HB.out, by repeat (first | (with_reducible first | exact HK.out | apply Kept.alloc | apply Kept.drewN | apply Kept.drew) | exact HK.out)⟩
              ·rw [if_neg c19] at H
               exact absurd H (by simp)
             ·replace c18 := Bool.eq_false_iff.mpr c18
              subst c18
              rw [if_neg (show ¬ (false = true) by decide)] at H
              have H' := Aside0.mk H
              clear H
              go_wp2_with (first | (refine wpList_putSet _ rfl (.tmp 32) (.tmp 33) (.const (.bool true)) 100 rfl Try.underlying3 Try.underlying4 Try.underlying100 b3 tr rfl M.out (by have := LG.out; unfold maxLen; omega) (rd x0_1 x17_1) rfl rfl (int_wf (by have := LG.out; omega)) ?_; intro w10 p2_ p3_; have n7_ := Kd.R_tight (d := Kd.int .i64) rfl HO_0.out; have n8_ := Kd.R_grown n7_ p3_ (fun k_ e_ h_ => by have e2_ : k_ = ad318.block := Option.some.inj e_; have h2_ : k_ = b3 := Option.some.inj h_; have := NB.out; omega); have n0_ := Aside0.mk (Kd.R_reok (d := Kd.int .i64) (ok := fun k_ => (P0_ k_ ∨ w.heap.size ≤ k_)) rfl n8_ (fun k_ e_ => HO_0.out.1 k_ e_)); clear n7_ n8_; have n1_ := Aside0.mk (Kept.of_grown (S := fun k_ => P0_ k_) p3_ HK.out (fun k_ e_ => .inr (by have e2_ : b3 = k_ := Option.some.inj e_; rw [← e2_]; exact G3.out))); have n2_ := Aside0.mk (pw_below_grown HB.out (some b3) HB.out.size p3_ (fun k e => by have e2_ : b3 = k := Option.some.inj e; rw [← e2_]; exact Nat.le_trans HW0.out G3.out)); have n3_ := Aside0.mk p2_; clear HO_0 HK HB M; have HO_0 := n0_; have HK := n1_; have HB := n2_; have M := n3_; clear n0_ n1_ n2_ n3_ p2_ p3_))
              replace HO_0 := Aside0.mk (Kd.R_drew HO_0.out)
              replace HK := Aside0.mk (Kept.drew HK.out)
              replace HB := Aside0.mk (below_drew1 HB.out)
              replace M := Aside0.mk (MapSet.drew M.out)
              have p320 : 0 ≤ (x17_1 : Int) := of_decide_eq_true asm
              have q320 : x17_1 < (x0_1.length : Int) := of_decide_eq_true asm
              obtain ⟨ad320, e320, hx320_0⟩ := Kd.at_int (Kd.R_reads' HO_0.out).2.2 x17_1 p320 q320
              obtain rfl : ad318 = ad320 := (by injection e320)
              replace p320 := eq_true p320
              replace q320 := eq_true q320
              have p321 : 0 ≤ (0 : Int) := (by omega)
              have q321 : 0 < (l1.length : Int) := of_decide_eq_true asm
              obtain ⟨ad321, e321, hx321_0⟩ := Kd.at_int (Kd.C_kept_now HR1.out HK.out) 0 p321 q321
              have hw321_0 := hx321_0
              (try rw [show ((0 : Int)).toNat = 0 from rfl] at hw321_0)
              (try rw [show 0 * 1 = 0 from rfl] at hw321_0)
              (try rw [Addr.add_zero'] at hw321_0)
              cases e321
              have qi321 : (0 < l1.length) = True := eq_true (by omega)
              (try rw [show ((0 : Int)).toNat = 0 from rfl] at hx321_0)
              (try rw [Addr.add_zero'] at hx321_0)
              replace p321 := eq_true p321
              replace q321 := eq_true q321
              have p15 : 0 ≤ (x17_1 : Int) := of_decide_eq_true asm
              have q15 : (x17_1 : Int) < ((x0_1.length : Int) : Int) := of_decide_eq_true asm
              obtain ⟨go15, co15, eo15, gb15, gl15, cl15, HG15⟩ := Kd.R_form HO_0.out (by omega)
              (first | cases eo15 | (injection eo15 with ea_ en_ ec_; (first | subst ea_ | (injection ea_ with ea_; subst ea_)); subst ec_; clear en_))
              have GB15 := Aside0.mk gb15
              have GG15 := Aside0.mk HG15
              clear gb15 gl15 HG15
              have HMgo15 := Aside0.mk (show (P0_ go15 ∨ w.heap.size ≤ go15) from (HO_0.out.1 _ rfl))
              (first | simp only [add_plain] at hx320_0 | skip)
              obtain ⟨hx15_0, hf15_0⟩ := Kd.R_celln 0 HO_0.out (x17_1 : Int) p15 q15
              replace p15 := eq_true p15
              replace q15 := eq_true q15
              have HP31 := Kd.R_putn HO_0.out (x17_1 : Int) (wrap64 ((rd x0_1 x17_1) - (rd l1 0)))
              rw [← Ny322.out] at HP31
              have HQ31 := Aside0.mk HP31
              clear HP31
              refine start_ (n := 10) (S := fun w' => w'.cell? ⟨go15, (x17_1).toNat, none⟩ = some (.int .i64 (rd x0_1 x17_1)) ∧ w'.cell? ad321 = some (.int .i64 (rd l1 0))) (ds := [9]) #[false, false, false, false, false, false, false, false, false, false] (by kernel_rfl) rfl rfl ⟨hx320_0, (by have h_ := Kd.foot_int (HR1.out _ (by repeat (first | exact HK.out | apply Kept.alloc | apply Kept.drewN | apply Kept.drew | refine Kept.setCell ?_ HMgo15.out _))) (0 : Int) (of_eq_true p321) (of_eq_true q321); rw [show ((0 : Int)).toNat = 0 from rfl, Addr.add_zero'] at h_; exact h_)⟩ (fun hHeld => ?_); refine with_tabW impl_spread.tab9 impl_spread.bits9 (fun HT_ HW_ => ?_)
              generalize w10.drew = w30 at HO_0 HK HB GG15 HQ31 hf15_0 hx15_0 hx320_0 hx321_0 M hHeld ⊢
              refine puA (i := 0) (N := some 34) HT_.out ?_
              refine puA (i := 1) (N := some 35) HT_.out ?_
              refine puA (i := 2) (N := some 36) HT_.out ?_
              refine puA (i := 4) (N := some 38) HT_.out ?_
              refine puA (i := 5) (N := some 39) HT_.out ?_
              refine tkA2 (i := 3) (N := some 37) HT_.out HW_.out hHeld ?_
              refine tkA2 (i := 6) (N := some 40) HT_.out HW_.out hHeld ?_
              refine puA (i := 7) (N := some 41) HT_.out ?_
              refine puA (i := 8) (N := some 42) HT_.out ?_
              refine last_ (i := 9) (N := none) #[true, true, true, true, true, true, true, true, true, true] rfl rfl (one_of HT_.out (by kernel_rfl)) (by decide) (fun K hK => ?_)
              refine skip_ (w1 := ?_) (by rfl) rfl ?_ ?_
              rotate_left
              ·go_simp
               rfl
              refine hK.out _ _ ?_
              clear hK K
              refine done_ (done_of HT_.out (by kernel_rfl)) ?_
              have n0_ : Aside0 (Kd.R (Kd.int .i64) 3 (w30.setCell ⟨go15, (x17_1 : Int).toNat, none⟩ (.int .i64 (wrap64 ((rd x0_1 x17_1) - (rd l1 0))))) w0.heap.size (fun k_ => (P0_ k_ ∨ w.heap.size ≤ k_)) (.slice (some ⟨go15, 0, none⟩) x0_1.length co4) y322) := ⟨rk HQ31.out⟩
              have n1_ : Aside0 (Kept w (w30.setCell ⟨go15, (x17_1 : Int).toNat, none⟩ (.int .i64 (wrap64 ((rd x0_1 x17_1) - (rd l1 0))))) (fun k_ => P0_ k_)) := ⟨by repeat (first | (with_reducible first | exact HK.out | apply Kept.alloc | apply Kept.drewN | apply Kept.drew | refine Kept.setCell ?_ HMgo15.out _) | exact HK.out)⟩
              have n2_ : Aside0 (Below w0.heap.size w0 (w30.setCell ⟨go15, (x17_1 : Int).toNat, none⟩ (.int .i64 (wrap64 ((rd x0_1 x17_1) - (rd l1 0)))))) := ⟨by repeat (first | (with_reducible first | exact HB.out | apply below_alloc | apply pw_below_drewN | apply below_drew1 | refine below_set ?_ GB15.out) | exact HB.out)⟩
              (try clear HO_0)
              (try clear HK)
              (try clear HB)
              have nm_ : Aside0 (MapSet Try.prog 3 4 (w30.setCell ⟨go15, (x17_1 : Int).toNat, none⟩ (.int .i64 (wrap64 ((rd x0_1 x17_1) - (rd l1 0))))) b3 ((rd x0_1 x17_1) :: tr)) := ⟨by refine MapSet.setCell M.out ?_ _; exact (Nat.ne_of_lt NB.out).symm⟩
              clear M
              generalize (w30.setCell ⟨go15, (x17_1 : Int).toNat, none⟩ (.int .i64 (wrap64 ((rd x0_1 x17_1) - (rd l1 0))))) = w32 at n0_ n1_ n2_ nm_ ⊢
              have M := nm_
              clear nm_
              have HO_0 := n0_
              have HK := n1_
              have HB := n2_
              clear n0_ n1_ n2_
              have qs1 : (1 : Int) ≤ (l1.length : Int) := by have := of_eq_true q321; omega
              obtain ⟨i0c, hi0c, _, hszc, _⟩ := info_parts info3
              have hcutc := cut_from (P := Try.prog) 38 3 .i64 Try.underlying38 hi0c 1 hszc (some ad321) l1.length c1 1 (by omega) qs1
              obtain ⟨A9_, hA9⟩ : ∃ A1, A1 = (if c1 = (1 : Int).toNat then (some ad321) else ((some ad321) : Option Addr).map (·.add ((1 : Int).toNat * 1))) := ⟨_, rfl⟩
              obtain ⟨c9_, hc9⟩ : ∃ c, c = c1 - (1 : Int).toNat := ⟨_, rfl⟩
              have hy9 : (l1.drop 1).length = l1.length - (1 : Int).toNat := (by rw [List.length_drop] <;> rfl)
              rw [← hy9, ← hA9, ← hc9] at hcutc
              have KA9 := Aside0.mk hA9
              have KC9 := Aside0.mk hc9
              have KY9 := Aside0.mk hy9
              clear hA9 hc9 hy9 hi0c hszc qs1
              try go_wp2_with (first | ((with_reducible refine gate_callee (f := 105) rfl ?_); refine goesL_ (some 47) rfl rfl Try.func105 (by kernel_rfl) rfl #[.slice (some ⟨go15, 0, none⟩) x0_1.length co4, .slice A9_ (l1.drop 1).length c9_] rfl mapd ?_; (with_reducible refine (ih kj7 (by have := HK1.out; have := HJ7.out; omega) (fun k_ => some k_ = (.slice (some ⟨go15, 0, none⟩) x0_1.length co4 : Value).ownBlock) (.slice (some ⟨go15, 0, none⟩) x0_1.length co4) y322 _ _ (l1.drop 1) t323 false t327 w0 _ ?side1 ?side2 ?side3 ?side4 A16.out).mono ?_); (case side1 => repeat (first | (with_reducible first | exact HB.out | apply below_alloc | apply pw_below_drewN | apply below_drew1) | exact HB.out)); (case side2 => exact Kd.R_tight rfl HO_0.out); (case side3 => exact fun W_ h_ => by rw [KA9.out]; exact Kd.C_drop (c := c1) (m := (1 : Int).toNat) ((Kd.C_kept_call HR1.out (by repeat (first | (with_reducible first | exact HK.out | apply Kept.alloc | apply Kept.drewN | apply Kept.drew) | exact HK.out)) (fun k_ hs_ => (fun e_ => (HO_0.out.1 k_ e_.symm)) hs_)) W_ h_) (by have := of_eq_true q321; omega) HC1.out); (case side4 => rw [KY9.out, KC9.out]; exact Nat.sub_le_sub_right HC1.out _); rintro e w33 ⟨v324, rfl, ho0, hy0, hb, hkp⟩; refine ⟨_, rfl, ?_⟩; have nm_ := Aside0.mk (MapSet.kept_ (v := .slice (some ⟨go15, 0, none⟩) x0_1.length co4) (by repeat (first | exact M.out | apply MapSet.drewN | apply MapSet.drew)) (bl HB.out) hb hkp (fun e_ => (Nat.ne_of_lt NB.out).symm (Option.some.inj e_))); clear M; have M := nm_; clear nm_; have HO325 := Aside0.mk (Kd.R_mono (ok' := fun k_ => (P0_ k_ ∨ w.heap.size ≤ k_) ∧ some k_ ≠ (.slice (some ⟨go15, 0, none⟩) x0_1.length co4 : Value).ownBlock) ho0 (fun k_ hk_ => ⟨Or.elim hk_.1 (fun hs_ => (HO_0.out.1 k_ (hs_).symm)) (fun hn_ => (.inr (Nat.le_trans (by first | exact HK.out.1 | exact (show Kept w _ (fun k_ => P0_ k_) from by repeat (first | (with_reducible first | exact HK.out | apply Kept.alloc | apply Kept.drewN | apply Kept.drew) | exact HK.out)).1) hn_))), hk_.2⟩)); replace HK := Aside0.mk (Kept.then_ (S := (fun k_ => P0_ k_)) (by repeat (first | (with_reducible first | exact HK.out | apply Kept.alloc | apply Kept.drewN | apply Kept.drew) | exact HK.out)) hkp (fun k_ hs_ => (fun e_ => (HO_0.out.1 k_ e_.symm)) hs_)); replace HO_0 := Aside0.mk (Kd.R_reok rfl hy0 (fun k_ e_ => HO_0.out.1 k_ e_)); replace HB := Aside0.mk (hb); (try clear hb); (try clear hkp); (try clear ho0); (try clear hy0)))
              replace HO_0 := Aside0.mk (Kd.R_drew HO_0.out)
              replace HO325 := Aside0.mk (Kd.R_drew HO325.out)
              replace HK := Aside0.mk (Kept.drew HK.out)
              replace HB := Aside0.mk (below_drew1 HB.out)
              replace M := Aside0.mk (MapSet.drew M.out)
              have p328 : 0 ≤ (x17_1 : Int) := of_decide_eq_true asm
              have q328 : x17_1 < (t327.length : Int) := (by have h_ : (x17_1 : Int) < ((x0_1.length : Int) : Int) := of_decide_eq_true asm; have e_ := (Kd.R_reads' HO_0.out).1; omega)
              have ql328 : ((x17_1 : Int) < ((x0_1.length : Int) : Int)) = True := eq_true (of_decide_eq_true asm)
              obtain ⟨ad328, e328, hx328_0⟩ := Kd.at_int (Kd.R_reads' HO_0.out).2.2 x17_1 p328 q328
              obtain rfl : (⟨go15, 0, none⟩ : Addr) = ad328 := (by injection e328)
              (first | simp only [add_plain] at hx328_0 | simp only [add_at] at hx328_0 | simp only [Addr.add, Nat.zero_add] at hx328_0 | skip)
              replace p328 := eq_true p328
              replace q328 := eq_true q328
              have p329 : 0 ≤ (0 : Int) := (by omega)
              have q329 : 0 < (l1.length : Int) := of_decide_eq_true asm
              obtain ⟨ad329, e329, hx329_0⟩ := Kd.at_int (Kd.C_kept_now HR1.out HK.out) 0 p329 q329
              have hw329_0 := hx329_0
              (try rw [show ((0 : Int)).toNat = 0 from rfl] at hw329_0)
              (try rw [show 0 * 1 = 0 from rfl] at hw329_0)
              (try rw [Addr.add_zero'] at hw329_0)
              obtain rfl : ad321 = ad329 := (by injection e329)
              have qi329 : (0 < l1.length) = True := eq_true (by omega)
              (try rw [show ((0 : Int)).toNat = 0 from rfl] at hx329_0)
              (try rw [Addr.add_zero'] at hx329_0)
              replace p329 := eq_true p329
              replace q329 := eq_true q329
              have p17 : 0 ≤ (x17_1 : Int) := of_decide_eq_true asm
              have q17 : (x17_1 : Int) < ((x0_1.length : Int) : Int) := of_decide_eq_true asm
              obtain ⟨hx17_0, hf17_0⟩ := Kd.R_celln 0 HO_0.out (x17_1 : Int) p17 q17
              replace p17 := eq_true p17
              replace q17 := eq_true q17
              have HP35 := Kd.R_putn HO_0.out (x17_1 : Int) (wrap64 ((rd t327 x17_1) + (rd l1 0)))
              rw [← Ny330.out] at HP35
              have HQ35 := Aside0.mk HP35
              clear HP35
              refine start_ (n := 10) (S := fun w' => w'.cell? ⟨go15, (x17_1).toNat, none⟩ = some (.int .i64 (rd t327 x17_1)) ∧ w'.cell? ad321 = some (.int .i64 (rd l1 0))) (ds := [9]) #[false, false, false, false, false, false, false, false, false, false] (by kernel_rfl) rfl rfl ⟨hx328_0, (by have h_ := Kd.foot_int (HR1.out _ (by repeat (first | exact HK.out | apply Kept.alloc | apply Kept.drewN | apply Kept.drew | refine Kept.setCell ?_ HMgo15.out _))) (0 : Int) (of_eq_true p329) (of_eq_true q329); rw [show ((0 : Int)).toNat = 0 from rfl, Addr.add_zero'] at h_; exact h_)⟩ (fun hHeld => ?_); refine with_tabW impl_spread.tab11 impl_spread.bits11 (fun HT_ HW_ => ?_)
              generalize w33.drew = w34 at HO_0 HO325 HK HB HQ35 hf17_0 hx17_0 hx328_0 hx329_0 M hHeld ⊢
              refine puA (i := 0) (N := some 50) HT_.out ?_
              refine puA (i := 1) (N := some 51) HT_.out ?_
              refine puA (i := 2) (N := some 52) HT_.out ?_
              refine puA (i := 4) (N := some 54) HT_.out ?_
              refine puA (i := 5) (N := some 55) HT_.out ?_
              refine tkA2 (i := 3) (N := some 53) HT_.out HW_.out hHeld ?_
              refine tkA2 (i := 6) (N := some 56) HT_.out HW_.out hHeld ?_
              refine puA (i := 7) (N := some 57) HT_.out ?_
              refine puA (i := 8) (N := some 58) HT_.out ?_
              refine last_ (i := 9) (N := none) #[true, true, true, true, true, true, true, true, true, true] rfl rfl (one_of HT_.out (by kernel_rfl)) (by decide) (fun K hK => ?_)
              refine skip_ (w1 := ?_) (by rfl) rfl ?_ ?_
              rotate_left
              ·go_simp
               rfl
              refine hK.out _ _ ?_
              clear hK K
              refine done_ (done_of HT_.out (by kernel_rfl)) ?_
              try go_wp2
              (try simp only [← hl0_1])
              go_roundg kj7
              case measure => have := HK1.out; have := HJ7.out; omega
              case rel => exact ⟨(y330), (wrap64 (x17_1 + 1)), ((rd x0_1 x17_1) :: tr), (by first | rfl | (simp; done) | (simp [*]; done)), H', ⟨by have := HK1.out; have := HJ7.out; omega⟩, ⟨by (try simp only [hl0_1]); refine rk ?_; exact HQ35.out⟩, ⟨by repeat (first | (with_reducible first | exact HK.out | apply Kept.alloc | apply Kept.drewN | apply Kept.drew | refine Kept.setCell ?_ HMgo15.out _) | exact HK.out)⟩, ⟨by repeat (first | (with_reducible first | exact HB.out | apply below_alloc | apply pw_below_drewN | apply below_drew1 | refine below_set ?_ GB15.out) | exact HB.out)⟩, ⟨by repeat (first | exact M.out | exact (Nat.ne_of_lt NB.out).symm | apply MapSet.drewN | apply MapSet.drew | apply MapSet.alloc | refine MapSet.setCell ?_ ?_ _)⟩⟩
            ·rw [if_neg c14] at H
             exact absurd H (by simp)
           ·rw [if_neg c13] at H
            exact absurd H (by simp)
          ·rw [if_neg c12] at H
           exact absurd H (by simp)
      ·rw [if_neg c7] at H
       exact absurd H (by simp)
     ·rw [if_neg c6] at H
      exact absurd H (by simp)
    ·rw [if_neg c5] at H
     have c5b0 : decide (x17_1 < (l0.length : Int)) = false := decide_eq_false c5
     rw [hl0_1] at c5b0
     clear c5
     simp only [Option.some.injEq, Prod.mk.injEq] at H
     obtain ⟨rfl, rfl, rfl⟩ := H
     go_wp2
     go_ret2
     exact ⟨_, by first | rfl | (simp [errW_none, errW_some] <;> rfl) | (simp [*, errW_none, errW_some] <;> rfl), by first | exact Kd.R_nil _ _ _ _ _ | exact Kd.N_nil _ _ _ _ _ | exact Kd.V_nil _ _ _ _ _ | exact Kd.Q_nil _ _ _ _ _ | exact Kd.S_nil _ _ _ _ _, (by first | exact (rk HO_0.out) | (simp only [hl0_1]; exact (rk HO_0.out))), bl HB.out, by repeat (first | (with_reducible first | exact HK.out | apply Kept.alloc | apply Kept.drewN | apply Kept.drew) | exact HK.out)⟩
end Go.Proofs.Ytbpjidekjogfeaa.A

namespace Go.Proofs.Ytbpjidekjogfeaa.A
open Go.RowKit Go.Proofs.YtbpjidekjogfeaaW.PrintWords Go.Proofs.YtbpjidekjogfeaaW.PrintLast Go.Proofs.YtbpjidekjogfeaaW.PrintMore
attribute [local go_sem] max2_int min2_int max_two min_two max_three min_three max_four min_four   
set_option linter.unusedVariables false
set_option linter.unusedSimpArgs false
mutual
def impl_PlacesFor.j0 : Nat → List (S41) → List Int → Bool → Option (List Int × Bool)
 | 0, _, _, _ => none
 | k + 1, x0, x1, x16 => if x16 = true then (some (([] : List Int), false)) else ((impl_bankGaps.f k x0).bind fun t1066 => (impl_PlacesFor.l0 k x1 ([] : List Int) t1066 (t1066.length : Int) 0))
def impl_PlacesFor.l0 : Nat → List Int → List Int → List (S50) → Int → Int → Option (List Int × Bool)
 | 0, _, _, _, _, _ => none
 | k + 1, x1, x6, x18, x19, x20 => if x20 < x19 then (if 0 ≤ x20 then (if x20 < (x18.length : Int) then (if x6.length < 17592186044416 then (impl_PlacesFor.l0 k x1 (x6 ++ [(rd_T50 x18 x20).f2]) x18 x19 (wrap64 (x20 + 1))) else (none)) else (none)) else (none)) else ((impl_spread.f k x6 x1).bind fun bt1074 => (some (bt1074.1, bt1074.2.1)))
end
def impl_PlacesFor.f (k : Nat) (l0 : List (S41)) (l1 : List Int) : Option (List Int × Bool) := (impl_BankOk.f l0).bind fun t1064 => (if t1064 = true then ((impl_sizesOk.f k l1).bind fun t1065 => (impl_PlacesFor.j0 k l0 l1 (!t1065))) else (impl_PlacesFor.j0 k l0 l1 true))
set_option maxHeartbeats 8000000 in
set_option maxRecDepth 100000 in
theorem impl_PlacesFor.calls (k : Nat) (A0 : Option Addr) (c0 : Nat) (l0 : List (S41)) (A1 : Option Addr) (c1 : Nat) (l1 : List Int) (r1 : List Int) (r2 : Bool) (w : World) (hr0 : Kd.C k41 w A0 l0.length l0) (hc0 : l0.length ≤ c0) (hr1 : Kd.C (Kd.int .i64) w A1 l1.length l1) (hc1 : l1.length ≤ c1) (h : impl_PlacesFor.f k l0 l1 = some (r1, r2)) :
  Calls Try.prog 53 #[.slice A0 l0.length c0, .slice A1 l1.length c1] w fun e w' => ∃ v0_ : Value, e = .returned (.tuple #[v0_, .bool r2]) ∧ Kd.R (Kd.int .i64) 3 w' w.heap.size (fun _ => True) v0_ r1 ∧ Below w.heap.size w w' := by
 have hu50 := Try.underlying50
 have HR0 := Aside0.mk hr0
 have HC0 := Aside0.mk hc0
 clear hr0 hc0
 have HR1 := Aside0.mk hr1
 have HC1 := Aside0.mk hc1
 clear hr1 hc1
 have HB := Aside0.mk (Below.refl w.heap.size w)
 have H : ((impl_BankOk.f l0).bind fun t1064 => (if t1064 = true then ((impl_sizesOk.f k l1).bind fun t1065 => (impl_PlacesFor.j0 k l0 l1 (!t1065))) else (impl_PlacesFor.j0 k l0 l1 true))) = some (r1, r2) := h
 clear h
 have HC3 := Aside0.mk H
 clear H
 go_enter Try.func53, Try.ntmps53
 go_upto_region 1 with (fail)
 go_cut [16] (fun v16 wc => ∃ (kq : Nat) (x16_2 : Bool), v16 = .bool x16_2 ∧ Aside0 (impl_PlacesFor.j0 kq l0 l1 x16_2 = some (r1, r2)) ∧ Aside0 (kq ≤ k) ∧ Aside0 (Below w.heap.size w wc))
 case first =>
  have H := HC3.out
  clear HC3
  replace H := Option.bind_eq_some_iff.mp H
  obtain ⟨t1064, A40, H⟩ := H
  try dsimp only at H
  have A4 := Aside0.mk A40
  clear A40
  by_cases c5 : t1064 = true
  ·subst c5
   rw [if_pos rfl] at H
   replace H := Option.bind_eq_some_iff.mp H
   obtain ⟨t1065, A60, H⟩ := H
   try dsimp only at H
   have A6 := Aside0.mk A60
   clear A60
   have H' := Aside0.mk H
   clear H
   go_wp2_with (first | ((with_reducible refine gate_callee (f := 51) rfl ?_); refine goesL_ (some 10) rfl rfl Try.func51 (by kernel_rfl) rfl #[.slice A0 l0.length c0] rfl mapd ?_; (with_reducible refine (impl_BankOk.calls _ _ l0 true _ ?side1 ?side2 A4.out).mono ?_); (case side1 => exact cb (Kd.C_below HR0.out HB.out)); (case side2 => exact HC0.out); rintro e w7 ⟨rfl, hb⟩; refine ⟨_, rfl, ?_⟩; replace HB := Aside0.mk (below_step (bl HB.out) hb); (try clear hb); (try clear hb2); (try clear hk); (try clear hi)) | (go_at_call 100; (with_reducible refine (impl_sizesOk.calls k _ _ l1 t1065 _ ?side1 ?side2 A6.out).mono ?_); (case side1 => exact cb (Kd.C_below HR1.out HB.out)); (case side2 => exact HC1.out); rintro e w' ⟨rfl, ⟨nd, rfl⟩⟩))
   go_meet
   case rel => exact ⟨_, (!t1065), (by first | rfl | (simp; done) | (simp [*]; done)), H', ⟨by first | omega | exact Nat.le_refl _⟩, ⟨bl HB.out⟩⟩
  ·replace c5 := Bool.eq_false_iff.mpr c5
   subst c5
   rw [if_neg (show ¬ (false = true) by decide)] at H
   have H' := Aside0.mk H
   clear H
   go_wp2_with (first | ((with_reducible refine gate_callee (f := 51) rfl ?_); refine goesL_ (some 10) rfl rfl Try.func51 (by kernel_rfl) rfl #[.slice A0 l0.length c0] rfl mapd ?_; (with_reducible refine (impl_BankOk.calls _ _ l0 false _ ?side1 ?side2 A4.out).mono ?_); (case side1 => exact cb (Kd.C_below HR0.out HB.out)); (case side2 => exact HC0.out); rintro e w8 ⟨rfl, hb⟩; refine ⟨_, rfl, ?_⟩; replace HB := Aside0.mk (below_step (bl HB.out) hb); (try clear hb); (try clear hb2); (try clear hk); (try clear hi)))
   go_meet
   case rel => exact ⟨_, (true), (by first | rfl | (simp; done) | (simp [*]; done)), H', ⟨by first | omega | exact Nat.le_refl _⟩, ⟨bl HB.out⟩⟩
 case rest =>
  clear HC3
  try clear c1
  try clear p2
  try clear c5
  obtain ⟨kq, x16_2, rfl, HA, HJ2, HB⟩ := hcut
  cases kq with
  | zero => exact absurd HA.out (by simp [impl_PlacesFor.j0])
  | succ kj2 =>
   have H := HA.out
   clear HA
   simp only [impl_PlacesFor.j0] at H
   by_cases c9 : x16_2 = true
   ·subst c9
    rw [if_pos rfl] at H
    simp only [Option.some.injEq, Prod.mk.injEq] at H
    obtain ⟨rfl, rfl⟩ := H
    go_wp2
    go_ret2
    exact ⟨_, by first | rfl | (simp [errW_none, errW_some] <;> rfl) | (simp [*, errW_none, errW_some] <;> rfl), by first | exact Kd.R_nil _ _ _ _ _ | exact Kd.N_nil _ _ _ _ _ | exact Kd.V_nil _ _ _ _ _ | exact Kd.Q_nil _ _ _ _ _ | exact Kd.S_nil _ _ _ _ _, bl HB.out⟩
   ·replace c9 := Bool.eq_false_iff.mpr c9
    subst c9
    rw [if_neg (show ¬ (false = true) by decide)] at H
    replace H := Option.bind_eq_some_iff.mp H
    obtain ⟨t1066, A100, H⟩ := H
    try dsimp only at H
    have A10 := Aside0.mk A100
    clear A100
    have H' := Aside0.mk H
    clear H
    go_wp2_with (first | ((with_reducible refine gate_callee (f := 67) rfl ?_); refine goesL_ (some 18) rfl rfl Try.func67 (by kernel_rfl) rfl #[.slice A0 l0.length c0] rfl mapd ?_; (with_reducible refine (impl_bankGaps.calls kj2 _ _ l0 t1066 _ ?side1 ?side2 A10.out).mono ?_); (case side1 => exact cb (Kd.C_below HR0.out HB.out)); (case side2 => exact HC0.out); rintro e w11 ⟨v1067, rfl, ho0, hb⟩; refine ⟨_, rfl, ?_⟩; have HO1068 := Aside0.mk (Kd.R_lower ho0 (below_size (bl HB.out))); replace HB := Aside0.mk (below_step (bl HB.out) hb); (try clear hb); (try clear hb2); (try clear hk); (try clear hi); (try clear ho0); obtain ⟨Ao12, co12, eo12⟩ := Kd.R_slice HO1068.out; subst eo12))
    go_loopg [6, 20] kj2 (fun kq v6 v20 w' => ∃ (x6_2 : List Int) (x20_2 : Int), v20 = .int .i64 x20_2 ∧ Aside0 (impl_PlacesFor.l0 kq l1 x6_2 t1066 (t1066.length : Int) x20_2 = some (r1, r2)) ∧ Aside0 (kq ≤ kj2) ∧ Aside0 (Kd.R (Kd.int .i64) 3 w' w.heap.size (fun _ => True) v6 x6_2) ∧ Aside0 (Kd.R k50 50 w' w.heap.size (fun _ => True) (.slice Ao12 t1066.length co12) t1066) ∧ Aside0 (Below w.heap.size w w'))
    case atStart => exact ⟨(([] : List Int)), (0), (by first | rfl | (simp; done) | (simp [*]; done)), H', ⟨Nat.le_refl _⟩, ⟨by first | exact Kd.R_nil _ _ _ _ _ | exact Kd.N_nil _ _ _ _ _ | exact Kd.V_nil _ _ _ _ _ | exact Kd.Q_nil _ _ _ _ _ | exact Kd.S_nil _ _ _ _ _⟩, ⟨rk HO1068.out⟩, ⟨bl HB.out⟩⟩
    case round =>
     clear H'
     try clear c1
     try clear p2
     try clear c5
     try clear c6
     try clear c9
     try clear p2
     obtain ⟨x6_2, x20_2, rfl, HA, HK2, HO_6, HO_18, HB⟩ := hrel
     cases gk with
     | zero => exact absurd HA.out (by simp [impl_PlacesFor.l0])
     | succ k2 =>
      have H := HA.out
      clear HA
      simp only [impl_PlacesFor.l0] at H
      by_cases c13 : x20_2 < (t1066.length : Int)
      ·rw [if_pos c13] at H
       have c13b0 : decide (x20_2 < (t1066.length : Int)) = true := decide_eq_true c13
       clear c13
       by_cases c14 : 0 ≤ x20_2
       ·rw [if_pos c14] at H
        have c14b0 : decide (0 ≤ x20_2) = true := decide_eq_true c14
        clear c14
        by_cases c15 : x20_2 < (t1066.length : Int)
        ·rw [if_pos c15] at H
         have c15b0 : decide (x20_2 < (t1066.length : Int)) = true := decide_eq_true c15
         clear c15
         by_cases c16 : x6_2.length < 17592186044416
         ·rw [if_pos c16] at H
          have LMc16 := Aside0.mk c16
          clear c16
          obtain ⟨y1071, hy1071⟩ : ∃ y_ : List Int, y_ = (x6_2 ++ [(rd_T50 t1066 x20_2).f2]) := ⟨_, rfl⟩
          replace H : (impl_PlacesFor.l0 k2 l1 y1071 t1066 (t1066.length : Int) (wrap64 (x20_2 + 1))) = some (r1, r2) := by first | (rw [hy1071]; with_reducible exact H) | (have H2_ := (Option.bind_some _ _).symm.trans H; rw [hy1071]; with_reducible exact H2_) | (have H2_ := (Option.bind_some _ _).symm.trans H; with_reducible exact H2_) | with_reducible exact H | (rw [hy1071]; exact H) | exact H
          have Ny1071 := Aside0.mk hy1071
          clear hy1071
          have H' := Aside0.mk H
          clear H
          have p1069 : 0 ≤ (x20_2 : Int) := of_decide_eq_true asm
          have q1069 : x20_2 < (t1066.length : Int) := of_decide_eq_true asm
          obtain ⟨ad1069, e1069, hx1069_0, hx1069_1, hx1069_2⟩ := at_T50 (Kd.R_reads' HO_18.out).2.2 x20_2 p1069 q1069
          cases e1069
          replace p1069 := eq_true p1069
          replace q1069 := eq_true q1069
          go_wp2_with (first | ((with_reducible refine gate_dst (N := 8) rfl ?_); refine bx (cs := #[.int .i64 0, .int .i64 0, .int .i64 0]) (t := 50) fun gb1070 hg w17 hbox hb => ?_; replace HO_6 := Aside0.mk (Kd.R_below (rk HO_6.out) hb); replace HO_18 := Aside0.mk (Kd.R_below (Kd.R_elderB (rk HO_18.out) gb1070 (Nat.le_of_eq hg.symm)) hb); have BK1070 := Aside0.mk (hbox); have GW1070 := Aside0.mk (gs HB.out hg); have GE1070 := Aside0.mk (gs HB.out hg); replace HB := Aside0.mk (below_step (bl HB.out) hb); clear hb hbox hg; obtain ⟨hcz18_0, hcz18_1, hcz18_2, hfz18_0, hfz18_1, hfz18_2⟩ := cz3 BK1070.out) | ((with_reducible refine gate_builtin (b := .append) (xs := #[.tmp 24, .tmp 27]) rfl ?_); at_builtin; refine Kd.R_append (Kd.int .i64) (w0 := w) w.heap.size rfl (.tmp 24) (.tmp 27) 38 3 (.int .i64 0) 8 rfl Try.underlying38 info3 rfl (by decide) (by omega) u6 x6_2 ((rd_T50 t1066 x20_2).f2) [.int .i64 ((rd_T50 t1066 x20_2).f2)] (fun _ => True) (fun _ => False) rfl (by first | (go_simp; done) | (go_simp; rfl)) ?aP (fun _ hk => hk.elim) ?aF ?aO ?aB ?aS ?aL ?_; (case aP => exact rfl); (case aB => exact (bl HB.out)); (case aF => exact (fun _ _ => trivial)); (case aO => exact (by refine rk ?_; exact Kd.R_mono (Kd.R_far (p := ⟨gb1070, 2, none⟩) (Kd.R_far (p := ⟨gb1070, 1, none⟩) (Kd.R_far (p := ⟨gb1070, 0, none⟩) (Kd.R_types HO_6.out BK1070.out (by decide)) (fun _ hk => hk.2) (.int .i64 ((rd_T50 t1066 x20_2).f0))) (fun _ hk => hk.2) (.int .i64 ((rd_T50 t1066 x20_2).f1))) (fun _ hk => hk.2) (.int .i64 ((rd_T50 t1066 x20_2).f2))) (fun _ hk => trivial))); (case aS => exact (below_size (bl HB.out))); (case aL => have := LMc16.out; omega); intro v1072 w19 ho hb hg hat; rw [← Ny1071.out] at ho; replace HO_18 := Aside0.mk (Kd.R_over' (by refine rk ?_; exact (Kd.R_mono (Kd.R_far (p := ⟨gb1070, 2, none⟩) (Kd.R_far (p := ⟨gb1070, 1, none⟩) (Kd.R_far (p := ⟨gb1070, 0, none⟩) (Kd.R_mono HO_18.out (fun k_ hk => (⟨hk, hk.2⟩ : _ ∧ k_ ≠ gb1070))) (fun _ hk => hk.2) (.int .i64 ((rd_T50 t1066 x20_2).f0))) (fun _ hk => hk.2) (.int .i64 ((rd_T50 t1066 x20_2).f1))) (fun _ hk => hk.2) (.int .i64 ((rd_T50 t1066 x20_2).f2))) (fun _ h_ => h_.1))) (Kd.R_typed (by refine rk ?_; exact (Kd.R_mono (Kd.R_far (p := ⟨gb1070, 2, none⟩) (Kd.R_far (p := ⟨gb1070, 1, none⟩) (Kd.R_far (p := ⟨gb1070, 0, none⟩) (Kd.R_types HO_6.out BK1070.out (by decide)) (fun _ hk => hk.2) (.int .i64 ((rd_T50 t1066 x20_2).f0))) (fun _ hk => hk.2) (.int .i64 ((rd_T50 t1066 x20_2).f1))) (fun _ hk => hk.2) (.int .i64 ((rd_T50 t1066 x20_2).f2))) (fun _ h_ => h_.1)))) (by decide) hg); replace BK1070 := Aside0.mk (blk_grown (g := gb1070) (o := .cells #[.int .i64 ((rd_T50 t1066 x20_2).f0), .int .i64 ((rd_T50 t1066 x20_2).f1), .int .i64 ((rd_T50 t1066 x20_2).f2)] 50 (0, 0)) (by refine bk ?_; refine blk_put (cs := #[.int .i64 ((rd_T50 t1066 x20_2).f0), .int .i64 ((rd_T50 t1066 x20_2).f1), .int .i64 0]) ?_ 2 _ rfl; refine bk ?_; refine blk_put (cs := #[.int .i64 ((rd_T50 t1066 x20_2).f0), .int .i64 0, .int .i64 0]) ?_ 1 _ rfl; refine bk ?_; refine blk_put (cs := #[.int .i64 0, .int .i64 0, .int .i64 0]) ?_ 0 _ rfl; refine bk ?_; exact BK1070.out) hg (Kd.R_ne HO_6.out BK1070.out (by decide))); replace HB := Aside0.mk (hb); have HO1073 := Aside0.mk (ho); clear HO_6; clear ho hb hg hat))
          go_roundg k2
          case measure => have := HJ2.out; have := HK2.out; omega
          case rel => exact ⟨(y1071), (wrap64 (x20_2 + 1)), (by first | rfl | (simp; done) | (simp [*]; done)), H', ⟨by have := HJ2.out; have := HK2.out; omega⟩, ⟨rk HO1073.out⟩, ⟨by refine rk ?_; exact Kd.R_mono HO_18.out (fun _ hk => trivial)⟩, ⟨bl HB.out⟩⟩
         ·rw [if_neg c16] at H
          exact absurd H (by simp)
        ·rw [if_neg c15] at H
         exact absurd H (by simp)
       ·rw [if_neg c14] at H
        exact absurd H (by simp)
      ·rw [if_neg c13] at H
       have c13b0 : decide (x20_2 < (t1066.length : Int)) = false := decide_eq_false c13
       clear c13
       replace H := Option.bind_eq_some_iff.mp H
       obtain ⟨⟨t1074, t1077, t1078⟩, A200, H⟩ := H
       try dsimp only at H
       have A20 := Aside0.mk A200
       clear A200
       simp only [Option.some.injEq, Prod.mk.injEq] at H
       obtain ⟨rfl, rfl⟩ := H
       obtain ⟨Ao21, co21, eo21⟩ := Kd.R_slice HO_6.out
       subst eo21
       go_wp2_with (first | ((with_reducible refine gate_callee (f := 105) rfl ?_); refine goesL_ (some 32) rfl rfl Try.func105 (by kernel_rfl) rfl #[.slice Ao21 x6_2.length co21, .slice A1 l1.length c1] rfl mapd ?_; (with_reducible refine (impl_spread.calls k2 (fun k_ => some k_ = (.slice Ao21 x6_2.length co21 : Value).ownBlock) (.slice Ao21 x6_2.length co21) x6_2 _ _ l1 t1074 t1077 t1078 w _ ?side1 ?side2 ?side3 ?side4 A20.out).mono ?_); (case side1 => repeat (first | (with_reducible first | exact HB.out | apply below_alloc | apply pw_below_drewN | apply below_drew1) | exact HB.out)); (case side2 => exact Kd.R_tight rfl HO_6.out); (case side3 => exact Kd.C_kept_came (Kd.heap_int .i64) HR1.out (bl HB.out) (fun k_ hs_ => (fun e_ => Kd.R_base HO_6.out k_ e_.symm) hs_)); (case side4 => exact HC1.out); rintro e w22 ⟨v1075, rfl, ho0, hy0, hb, hkp⟩; refine ⟨_, rfl, ?_⟩; replace HO_18 := Aside0.mk (Kd.R_mono (ok' := fun k_ => True) (Kd.R_keptB ((Kd.R_apart' HO_18.out (Kd.R_typed HO_6.out) (by decide))) hkp (fun k_ hk_ hs_ => (hk_.2) hs_)) (fun k_ hk_ => trivial)); replace HO_6 := Aside0.mk (Kd.R_reok rfl hy0 (fun k_ e_ => HO_6.out.1 k_ e_)); have HO1076 := Aside0.mk (Kd.R_mono (ok' := fun k_ => some k_ ≠ (.slice Ao21 x6_2.length co21 : Value).ownBlock) ho0 (fun k_ hk_ => hk_.2)); replace HB := Aside0.mk (hb); (try clear hb); (try clear hkp); (try clear ho0); (try clear hy0)))
       go_ret2
       exact ⟨_, by first | rfl | (simp [errW_none, errW_some] <;> rfl) | (simp [*, errW_none, errW_some] <;> rfl), by refine rk ?_; exact Kd.R_mono HO1076.out (fun _ hk => trivial), bl HB.out⟩
end Go.Proofs.Ytbpjidekjogfeaa.A
