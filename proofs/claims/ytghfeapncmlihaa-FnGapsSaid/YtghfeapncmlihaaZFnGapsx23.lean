/- What the proof of the law FnGaps uses: lemmas, the Lean functions of the Go functions that it reaches, their contracts, and the pure statement's proof. -/
import Derived.Test.YtghfeapncmlihaaZFnGapsx16
import Derived.Test.YtghfeapncmlihaaZFnGapsx17
import Derived.Test.YtghfeapncmlihaaZFnGapsx19
import Derived.Test.YtghfeapncmlihaaZFnGapsx21
import Derived.Test.YtghfeapncmlihaaZFnGapsh
namespace Go.Proofs.Ytghfeapncmlihaa.A
open Go.RowKit Go.Proofs.YtghfeapncmlihaaW.PrintWords Go.Proofs.YtghfeapncmlihaaW.PrintLast Go.Proofs.YtghfeapncmlihaaW.PrintMore
attribute [local go_sem] max2_int min2_int max_two min_two max_three min_three max_four min_four   
set_option linter.unusedVariables false
set_option linter.unusedSimpArgs false
def laws_big.f (l0 : List Int) : Option (Bool) := some (decide ((l0.length : Int) > 1048576))
set_option maxHeartbeats 8000000 in
set_option maxRecDepth 100000 in
theorem laws_big.calls (A0 : Option Addr) (c0 : Nat) (l0 : List Int) (r : Bool) (w : World) (hr0 : Kd.C (Kd.int .u8) w A0 l0.length l0) (hc0 : l0.length ≤ c0) (h : laws_big.f l0 = some r) :
  Calls Try.prog 52 #[.slice A0 l0.length c0] w fun e w' => e = .returned (.bool r) ∧ Drawn0 w w' := by
 have HR0 := Aside0.mk hr0
 have HC0 := Aside0.mk hc0
 clear hr0 hc0
 have H : (some (decide ((l0.length : Int) > 1048576))) = some r := h
 clear h
 obtain rfl := Option.some.inj H
 go_enter Try.func52, Try.ntmps52
 go_wp2
 go_ret
 exact ⟨by first | rfl | (simp; done) | (simp [*]; done), by repeat (first | exact Drawn0.refl _ | apply Drawn0.step)⟩
def IsS104 (w0 W : World) (g : Nat) (f0 : List Int) (f1 : Int) (f2 : Int) : Prop := ∃ A0 c0, W.heap[g]? = some (.cells #[.slice A0 f0.length c0, .int .i64 f1, .int .i64 f2] 104 (0, 0)) ∧ w0.heap.size ≤ g ∧ Kd.C (Kd.int .u8) w0 A0 f0.length f0
theorem IsS104.grown {w0 W : World} {g : Nat} {f0 : List Int} {f1 : Int} {f2 : Int} {W1 : World} {row : Option Nat} (h : IsS104 w0 W g f0 f1 f2) (hw : W.grownBy W1 row) (hne : some g ≠ row) : IsS104 w0 W1 g f0 f1 f2 := by
 obtain ⟨A0, c0, hb, hg, hr0⟩ := h
 exact ⟨A0, c0, blk_grown hb hw hne, hg, hr0⟩
theorem IsS104.kept {w0 W : World} {g : Nat} {f0 : List Int} {f1 : Int} {f2 : Int} {W1 : World} {S : Nat → Prop} (h : IsS104 w0 W g f0 f1 f2) (hk : Kept W W1 S) (hne : ¬ S g) : IsS104 w0 W1 g f0 f1 f2 := by
 obtain ⟨A0, c0, hb, hg, hr0⟩ := h
 exact ⟨A0, c0, blk_kept hb hk hne, hg, hr0⟩
theorem IsS104.below {w0 W : World} {g : Nat} {f0 : List Int} {f1 : Int} {f2 : Int} {W1 : World} (h : IsS104 w0 W g f0 f1 f2) (hw : Below W.heap.size W W1) : IsS104 w0 W1 g f0 f1 f2 := h.grown (grown_of_below hw none) (by simp)
theorem IsS104.alloc {w0 W : World} {g : Nat} {f0 : List Int} {f1 : Int} {f2 : Int} (h : IsS104 w0 W g f0 f1 f2) (o : Obj) : IsS104 w0 (W.alloc o) g f0 f1 f2 := h.below (below_alloc (Below.refl _ _) o)
theorem IsS104.drewN {w0 W : World} {g : Nat} {f0 : List Int} {f1 : Int} {f2 : Int} (h : IsS104 w0 W g f0 f1 f2) (m : Nat) : IsS104 w0 (W.drewN m) g f0 f1 f2 := h
theorem IsS104.drew {w0 W : World} {g : Nat} {f0 : List Int} {f1 : Int} {f2 : Int} (h : IsS104 w0 W g f0 f1 f2) : IsS104 w0 W.drew g f0 f1 f2 := h
theorem IsS104.at_ {w0 W : World} {g : Nat} {f0 : List Int} {f1 : Int} {f2 : Int} {w' : World} {m : Nat} (hq : W.drewN m = w') (h : IsS104 w0 W g f0 f1 f2) : IsS104 w0 w' g f0 f1 f2 := by subst hq; exact IsS104.drewN h m
theorem IsS104.apart {w0 W : World} {g : Nat} {f0 : List Int} {f1 : Int} {f2 : Int} {α : Type} {d : Kd α} {e : Nat} {base : Nat} {ok : Nat → Prop} {v : Value} {xs : List α} (h : IsS104 w0 W g f0 f1 f2) (ho : d.R e W base ok v xs) (ht : ∀ q, q ∈ e :: d.E → q ≠ 104) : d.R e W base (fun k => ok k ∧ k ≠ g) v xs := by
 obtain ⟨A0, c0, hb, hg, hr0⟩ := h
 exact Kd.R_types ho hb ht
theorem IsS104.own_ne {w0 W : World} {g : Nat} {f0 : List Int} {f1 : Int} {f2 : Int} {α : Type} {d : Kd α} {e : Nat} {base : Nat} {ok : Nat → Prop} {v : Value} {xs : List α} (h : IsS104 w0 W g f0 f1 f2) (ho : d.R e W base ok v xs) (ht : e ≠ 104) : some g ≠ v.ownBlock := by
 obtain ⟨A0, c0, hb, hg, hr0⟩ := h
 exact Kd.R_ne ho hb ht
theorem IsS104.lt {w0 W : World} {g : Nat} {f0 : List Int} {f1 : Int} {f2 : Int} (h : IsS104 w0 W g f0 f1 f2) : g < W.heap.size := by
 obtain ⟨A0, c0, hb, hg, hr0⟩ := h
 exact blk_lt hb
theorem IsS104.ge {w0 W : World} {g : Nat} {f0 : List Int} {f1 : Int} {f2 : Int} (h : IsS104 w0 W g f0 f1 f2) : w0.heap.size ≤ g := by
 obtain ⟨A0, c0, hb, hg, hr0⟩ := h
 exact hg
theorem IsS104.ne_blk {w0 W : World} {g : Nat} {f0 : List Int} {f1 : Int} {f2 : Int} {a : Nat} {cs : Array Value} {t : TypeId} {fr : Nat × Nat} (h : IsS104 w0 W g f0 f1 f2) (hb2 : W.heap[a]? = some (.cells cs t fr)) (ht : t ≠ 104) : g ≠ a := by
 obtain ⟨A0, c0, hb, hg, hr0⟩ := h
 rintro rfl
 rw [hb] at hb2
 injection hb2 with hb2
 injection hb2 with _ ht2
 exact ht ht2.symm
theorem IsS104.far {w0 W : World} {g : Nat} {f0 : List Int} {f1 : Int} {f2 : Int} {p : Addr} (h : IsS104 w0 W g f0 f1 f2) (hne : g ≠ p.block) (u : Value) : IsS104 w0 (W.setCell p u) g f0 f1 f2 := by
 obtain ⟨A0, c0, hb, hg, hr0⟩ := h
 exact ⟨A0, c0, blk_far hb hne u, hg, hr0⟩
theorem cellS104_0 {W : World} {g : Nat} {A0 : Option Addr} {c0 : Nat} {f0 : List Int} {f1 : Int} {f2 : Int} (h : W.heap[g]? = some (.cells #[.slice A0 f0.length c0, .int .i64 f1, .int .i64 f2] 104 (0, 0))) : W.cell? ⟨g, 0, none⟩ = some (.slice A0 f0.length c0) := (blk_cell h 0).trans rfl
theorem cellS104_1 {W : World} {g : Nat} {A0 : Option Addr} {c0 : Nat} {f0 : List Int} {f1 : Int} {f2 : Int} (h : W.heap[g]? = some (.cells #[.slice A0 f0.length c0, .int .i64 f1, .int .i64 f2] 104 (0, 0))) : W.cell? ⟨g, 1, none⟩ = some (.int .i64 f1) := (blk_cell h 1).trans rfl
theorem IsS104.set_1 {w0 W : World} {g : Nat} {f0 : List Int} {f1 : Int} {f2 : Int} (h : IsS104 w0 W g f0 f1 f2) (x : Int) : IsS104 w0 (W.setCell ⟨g, 1, none⟩ (.int .i64 x)) g f0 x f2 := by
 obtain ⟨A0, c0, hb, hg, hr0⟩ := h
 exact ⟨A0, c0, by simpa using blk_set hb 1 (.int .i64 x), hg, hr0⟩
theorem cellS104_2 {W : World} {g : Nat} {A0 : Option Addr} {c0 : Nat} {f0 : List Int} {f1 : Int} {f2 : Int} (h : W.heap[g]? = some (.cells #[.slice A0 f0.length c0, .int .i64 f1, .int .i64 f2] 104 (0, 0))) : W.cell? ⟨g, 2, none⟩ = some (.int .i64 f2) := (blk_cell h 2).trans rfl
theorem IsS104.set_2 {w0 W : World} {g : Nat} {f0 : List Int} {f1 : Int} {f2 : Int} (h : IsS104 w0 W g f0 f1 f2) (x : Int) : IsS104 w0 (W.setCell ⟨g, 2, none⟩ (.int .i64 x)) g f0 f1 x := by
 obtain ⟨A0, c0, hb, hg, hr0⟩ := h
 exact ⟨A0, c0, by simpa using blk_set hb 2 (.int .i64 x), hg, hr0⟩
theorem IsS104.new (w0 W : World) (A0 : Option Addr) (c0 : Nat) (f0 : List Int) (f1 : Int) (f2 : Int) (hB : Below w0.heap.size w0 W) (hr0 : Kd.C (Kd.int .u8) w0 A0 f0.length f0) : IsS104 w0 (W.alloc (.cells #[.slice A0 f0.length c0, .int .i64 f1, .int .i64 f2] 104)) W.heap.size f0 f1 f2 := ⟨A0, c0, by simpa using heap_alloc_new W _, hB.size, hr0⟩
def spec_l01Byte.f (s0_0 : List Int) (s0_1 : Int) (s0_2 : Int) : Option (Int × Int × Int) := if s0_1 < (s0_0.length : Int) then (if 0 ≤ s0_1 then (some (Go.bits .and .i64 (wrap64 ((Go.bits .and .i64 (Go.bits .xor .i64 ((wrap64 ((wrap64 (s0_2 * 6364136223846793005)) + 1442695040888963407)) / 8589934592) ((wrap64 ((wrap64 (s0_2 * 6364136223846793005)) + 1442695040888963407)) / 35184372088832)) 255) + (wrap64 (rd s0_0 s0_1)))) 255, wrap64 (s0_1 + 1), wrap64 ((wrap64 (s0_2 * 6364136223846793005)) + 1442695040888963407))) else (none)) else (some (Go.bits .and .i64 (Go.bits .xor .i64 ((wrap64 ((wrap64 (s0_2 * 6364136223846793005)) + 1442695040888963407)) / 8589934592) ((wrap64 ((wrap64 (s0_2 * 6364136223846793005)) + 1442695040888963407)) / 35184372088832)) 255, s0_1, wrap64 ((wrap64 (s0_2 * 6364136223846793005)) + 1442695040888963407)))
set_option maxHeartbeats 8000000 in
set_option maxRecDepth 100000 in
theorem spec_l01Byte.calls (g : Nat) (s0_0 : List Int) (s0_1 : Int) (s0_2 : Int) (r1 : Int) (r2 : Int) (r3 : Int) (w0 w : World) (hI : IsS104 w0 w g s0_0 s0_1 s0_2) (hB : Below w0.heap.size w0 w) (h : spec_l01Byte.f s0_0 s0_1 s0_2 = some (r1, r2, r3)) :
  Calls Try.prog 103 #[.pointer (some ⟨g, 0, none⟩)] w fun e w' => e = .returned (.int .i64 r1) ∧ IsS104 w0 w' g s0_0 r2 r3 ∧ Below w0.heap.size w0 w' ∧ KeepBut w w' g none := by
 have HI0 := Aside0.mk hI
 have HK := Aside0.mk (KeepBut.refl w g none)
 have HL := Aside0.mk hB.size
 clear hI
 have HW0 := Aside0.mk hB.size
 have HB := Aside0.mk hB
 clear hB
 have H : (if s0_1 < (s0_0.length : Int) then (if 0 ≤ s0_1 then (some (Go.bits .and .i64 (wrap64 ((Go.bits .and .i64 (Go.bits .xor .i64 ((wrap64 ((wrap64 (s0_2 * 6364136223846793005)) + 1442695040888963407)) / 8589934592) ((wrap64 ((wrap64 (s0_2 * 6364136223846793005)) + 1442695040888963407)) / 35184372088832)) 255) + (wrap64 (rd s0_0 s0_1)))) 255, wrap64 (s0_1 + 1), wrap64 ((wrap64 (s0_2 * 6364136223846793005)) + 1442695040888963407))) else (none)) else (some (Go.bits .and .i64 (Go.bits .xor .i64 ((wrap64 ((wrap64 (s0_2 * 6364136223846793005)) + 1442695040888963407)) / 8589934592) ((wrap64 ((wrap64 (s0_2 * 6364136223846793005)) + 1442695040888963407)) / 35184372088832)) 255, s0_1, wrap64 ((wrap64 (s0_2 * 6364136223846793005)) + 1442695040888963407)))) = some (r1, r2, r3) := h
 clear h
 by_cases c2 : s0_1 < (s0_0.length : Int)
 ·rw [if_pos c2] at H
  have c2b0 : decide (s0_1 < (s0_0.length : Int)) = true := decide_eq_true c2
  clear c2
  by_cases c3 : 0 ≤ s0_1
  ·rw [if_pos c3] at H
   have c3b0 : decide (0 ≤ s0_1) = true := decide_eq_true c3
   clear c3
   simp only [Option.some.injEq, Prod.mk.injEq] at H
   obtain ⟨rfl, rfl, rfl⟩ := H
   obtain ⟨ASz4_0, cSz4_0, HGz4, hgz4, HSz4_0⟩ := HI0.out
   have hcz4_0 := cellS104_0 HGz4
   have hcz4_1 := cellS104_1 HGz4
   have hcz4_2 := cellS104_2 HGz4
   have hfz4_1 := blk_frozen HGz4 1
   have hfz4_2 := blk_frozen HGz4 2
   clear HGz4 hgz4
   have p1016 : 0 ≤ (s0_1 : Int) := of_decide_eq_true asm
   have q1016 : s0_1 < (s0_0.length : Int) := of_decide_eq_true asm
   obtain ⟨ad1016, e1016, hx1016_0⟩ := Kd.at_int HSz4_0 s0_1 p1016 q1016
   cases e1016
   have hn1016_0 : ad1016.block ≠ g := Nat.ne_of_lt (Nat.lt_of_lt_of_le (by have := World.block_lt_of_cell? _ _ hx1016_0; first | rwa [add_block] at this | exact this) (IsS104.ge HI0.out))
   replace hx1016_0 := pw_cell_below HB.out hx1016_0
   replace hx1016_0 := (cell_far (p := ⟨g, 2, none⟩) (by first | (rw [add_block]; exact hn1016_0) | (show (Addr.add _ _).block ≠ _; rw [add_block]; exact hn1016_0) | exact hn1016_0) (.int .i64 (wrap64 ((wrap64 (s0_2 * 6364136223846793005)) + 1442695040888963407)))).trans hx1016_0
   (try have hy1016_0 := fun (n_ : Nat) => (show (((w.drewN n_).setCell ⟨g, 2, none⟩ (.int .i64 (wrap64 ((wrap64 (s0_2 * 6364136223846793005)) + 1442695040888963407))))).cell? _ = some _ from hx1016_0))
   clear hn1016_0
   replace p1016 := eq_true p1016
   replace q1016 := eq_true q1016
   go_enter Try.func103, Try.ntmps103
   go_wp2
   repeat (go_quiet (fail); try go_wp2)
   go_ret
   exact ⟨by first | rfl | (simp [errW_none, errW_some] <;> rfl) | (simp [*, errW_none, errW_some] <;> rfl), is104 HI0.out, bl104 HB.out, kp HK.out⟩
  ·rw [if_neg c3] at H
   exact absurd H (by simp)
 ·rw [if_neg c2] at H
  have c2b0 : decide (s0_1 < (s0_0.length : Int)) = false := decide_eq_false c2
  clear c2
  simp only [Option.some.injEq, Prod.mk.injEq] at H
  obtain ⟨rfl, rfl, rfl⟩ := H
  obtain ⟨ASz5_0, cSz5_0, HGz5, hgz5, HSz5_0⟩ := HI0.out
  have hcz5_0 := cellS104_0 HGz5
  have hcz5_1 := cellS104_1 HGz5
  have hcz5_2 := cellS104_2 HGz5
  have hfz5_1 := blk_frozen HGz5 1
  have hfz5_2 := blk_frozen HGz5 2
  clear HGz5 hgz5
  go_enter Try.func103, Try.ntmps103
  go_wp2
  repeat (go_quiet (fail); try go_wp2)
  go_ret
  exact ⟨by first | rfl | (simp [errW_none, errW_some] <;> rfl) | (simp [*, errW_none, errW_some] <;> rfl), is104 HI0.out, bl104 HB.out, kp HK.out⟩
def spec_l01Below.f (s0_0 : List Int) (s0_1 : Int) (s0_2 : Int) (a1 : Int) : Option (Int × Int × Int) := if a1 ≤ 0 then (some (0, s0_1, s0_2)) else (if a1 ≤ 256 then ((spec_l01Byte.f s0_0 s0_1 s0_2).bind fun bt1017 => (if a1 = 0 then (none) else (some (Int.tmod bt1017.1 a1, bt1017.2.1, bt1017.2.2)))) else ((spec_l01Byte.f s0_0 s0_1 s0_2).bind fun bt1020 => ((spec_l01Byte.f s0_0 bt1020.2.1 bt1020.2.2).bind fun bt1023 => ((spec_l01Byte.f s0_0 bt1023.2.1 bt1023.2.2).bind fun bt1026 => ((spec_l01Byte.f s0_0 bt1026.2.1 bt1026.2.2).bind fun bt1029 => (if a1 = 0 then (none) else (some (Int.tmod (wrap64 ((wrap64 ((wrap64 ((wrap64 (bt1020.1 * 16777216)) + (wrap64 (bt1023.1 * 65536)))) + (wrap64 (bt1026.1 * 256)))) + bt1029.1)) a1, bt1029.2.1, bt1029.2.2))))))))
set_option maxHeartbeats 8000000 in
set_option maxRecDepth 100000 in
theorem spec_l01Below.calls (g : Nat) (s0_0 : List Int) (s0_1 : Int) (s0_2 : Int) (a1 : Int) (r1 : Int) (r2 : Int) (r3 : Int) (w0 w : World) (hI : IsS104 w0 w g s0_0 s0_1 s0_2) (hB : Below w0.heap.size w0 w) (h : spec_l01Below.f s0_0 s0_1 s0_2 a1 = some (r1, r2, r3)) :
  Calls Try.prog 97 #[.pointer (some ⟨g, 0, none⟩), .int .i64 a1] w fun e w' => e = .returned (.int .i64 r1) ∧ IsS104 w0 w' g s0_0 r2 r3 ∧ Below w0.heap.size w0 w' ∧ KeepBut w w' g none := by
 have HI0 := Aside0.mk hI
 have HK := Aside0.mk (KeepBut.refl w g none)
 have HL := Aside0.mk hB.size
 clear hI
 have HW0 := Aside0.mk hB.size
 have HB := Aside0.mk hB
 clear hB
 have H : (if a1 ≤ 0 then (some (0, s0_1, s0_2)) else (if a1 ≤ 256 then ((spec_l01Byte.f s0_0 s0_1 s0_2).bind fun bt1017 => (if a1 = 0 then (none) else (some (Int.tmod bt1017.1 a1, bt1017.2.1, bt1017.2.2)))) else ((spec_l01Byte.f s0_0 s0_1 s0_2).bind fun bt1020 => ((spec_l01Byte.f s0_0 bt1020.2.1 bt1020.2.2).bind fun bt1023 => ((spec_l01Byte.f s0_0 bt1023.2.1 bt1023.2.2).bind fun bt1026 => ((spec_l01Byte.f s0_0 bt1026.2.1 bt1026.2.2).bind fun bt1029 => (if a1 = 0 then (none) else (some (Int.tmod (wrap64 ((wrap64 ((wrap64 ((wrap64 (bt1020.1 * 16777216)) + (wrap64 (bt1023.1 * 65536)))) + (wrap64 (bt1026.1 * 256)))) + bt1029.1)) a1, bt1029.2.1, bt1029.2.2))))))))) = some (r1, r2, r3) := h
 clear h
 by_cases c3 : a1 ≤ 0
 ·rw [if_pos c3] at H
  have c3b0 : decide (a1 ≤ 0) = true := decide_eq_true c3
  clear c3
  simp only [Option.some.injEq, Prod.mk.injEq] at H
  obtain ⟨rfl, rfl, rfl⟩ := H
  go_enter Try.func97, Try.ntmps97
  go_wp2
  go_ret
  exact ⟨by first | rfl | (simp [errW_none, errW_some] <;> rfl) | (simp [*, errW_none, errW_some] <;> rfl), is104 HI0.out, bl104 HB.out, kp HK.out⟩
 ·rw [if_neg c3] at H
  have c3b0 : decide (a1 ≤ 0) = false := decide_eq_false c3
  clear c3
  by_cases c4 : a1 ≤ 256
  ·rw [if_pos c4] at H
   have c4b0 : decide (a1 ≤ 256) = true := decide_eq_true c4
   clear c4
   replace H := Option.bind_eq_some_iff.mp H
   obtain ⟨⟨t1017, t1018, t1019⟩, A50, H⟩ := H
   try dsimp only at H
   have A5 := Aside0.mk A50
   clear A50
   by_cases c6 : a1 = 0
   ·rw [if_pos c6] at H
    exact absurd H (by simp)
   ·rw [if_neg c6] at H
    have c6b0 : (a1 == 0) = false := beq_eq_false_iff_ne.mpr c6
    have c6b1 : (a1 != 0) = true := bne_iff_ne.mpr c6
    simp only [Option.some.injEq, Prod.mk.injEq] at H
    obtain ⟨rfl, rfl, rfl⟩ := H
    go_enter Try.func97, Try.ntmps97
    go_wp2_with (first | ((with_reducible refine gate_callee (f := 103) rfl ?_); refine goesL_ (some 14) rfl rfl Try.func103 (by kernel_rfl) rfl #[.pointer (some ⟨g, 0, none⟩)] rfl mapd ?_; (with_reducible refine (spec_l01Byte.calls g s0_0 s0_1 s0_2 t1017 t1018 t1019 w0 _ ?side1 ?side2 A5.out).mono ?_); (case side1 => exact is104 HI0.out); (case side2 => exact bl104 HB.out); rintro e w7 ⟨rfl, hi, hb, hk⟩; refine ⟨_, rfl, ?_⟩; replace HK := Aside0.mk (KeepBut.trans (kp HK.out) hk (.inl rfl)); replace HB := Aside0.mk (hb); replace HI0 := Aside0.mk (hi); (try clear hb); (try clear hb2); (try clear hk); (try clear hi)))
    go_ret
    exact ⟨by first | rfl | (simp [errW_none, errW_some] <;> rfl) | (simp [*, errW_none, errW_some] <;> rfl), is104 HI0.out, bl104 HB.out, kp HK.out⟩
  ·rw [if_neg c4] at H
   have c4b0 : decide (a1 ≤ 256) = false := decide_eq_false c4
   clear c4
   replace H := Option.bind_eq_some_iff.mp H
   obtain ⟨⟨t1020, t1021, t1022⟩, A80, H⟩ := H
   try dsimp only at H
   have A8 := Aside0.mk A80
   clear A80
   replace H := Option.bind_eq_some_iff.mp H
   obtain ⟨⟨t1023, t1024, t1025⟩, A90, H⟩ := H
   try dsimp only at H
   have A9 := Aside0.mk A90
   clear A90
   replace H := Option.bind_eq_some_iff.mp H
   obtain ⟨⟨t1026, t1027, t1028⟩, A100, H⟩ := H
   try dsimp only at H
   have A10 := Aside0.mk A100
   clear A100
   replace H := Option.bind_eq_some_iff.mp H
   obtain ⟨⟨t1029, t1030, t1031⟩, A110, H⟩ := H
   try dsimp only at H
   have A11 := Aside0.mk A110
   clear A110
   by_cases c12 : a1 = 0
   ·rw [if_pos c12] at H
    exact absurd H (by simp)
   ·rw [if_neg c12] at H
    have c12b0 : (a1 == 0) = false := beq_eq_false_iff_ne.mpr c12
    have c12b1 : (a1 != 0) = true := bne_iff_ne.mpr c12
    simp only [Option.some.injEq, Prod.mk.injEq] at H
    obtain ⟨rfl, rfl, rfl⟩ := H
    go_enter Try.func97, Try.ntmps97
    go_wp2_with (first | ((with_reducible refine gate_callee (f := 103) rfl ?_); refine goesL_ (some 18) rfl rfl Try.func103 (by kernel_rfl) rfl #[.pointer (some ⟨g, 0, none⟩)] rfl mapd ?_; (with_reducible refine (spec_l01Byte.calls g s0_0 s0_1 s0_2 t1020 t1021 t1022 w0 _ ?side1 ?side2 A8.out).mono ?_); (case side1 => exact is104 HI0.out); (case side2 => exact bl104 HB.out); rintro e w13 ⟨rfl, hi, hb, hk⟩; refine ⟨_, rfl, ?_⟩; replace HK := Aside0.mk (KeepBut.trans (kp HK.out) hk (.inl rfl)); replace HB := Aside0.mk (hb); replace HI0 := Aside0.mk (hi); (try clear hb); (try clear hb2); (try clear hk); (try clear hi)) | ((with_reducible refine gate_callee (f := 103) rfl ?_); refine goesL_ (some 20) rfl rfl Try.func103 (by kernel_rfl) rfl #[.pointer (some ⟨g, 0, none⟩)] rfl mapd ?_; (with_reducible refine (spec_l01Byte.calls g s0_0 t1021 t1022 t1023 t1024 t1025 w0 _ ?side1 ?side2 A9.out).mono ?_); (case side1 => exact is104 HI0.out); (case side2 => exact bl104 HB.out); rintro e w14 ⟨rfl, hi, hb, hk⟩; refine ⟨_, rfl, ?_⟩; replace HK := Aside0.mk (KeepBut.trans (kp HK.out) hk (.inl rfl)); replace HB := Aside0.mk (hb); replace HI0 := Aside0.mk (hi); (try clear hb); (try clear hb2); (try clear hk); (try clear hi)) | ((with_reducible refine gate_callee (f := 103) rfl ?_); refine goesL_ (some 22) rfl rfl Try.func103 (by kernel_rfl) rfl #[.pointer (some ⟨g, 0, none⟩)] rfl mapd ?_; (with_reducible refine (spec_l01Byte.calls g s0_0 t1024 t1025 t1026 t1027 t1028 w0 _ ?side1 ?side2 A10.out).mono ?_); (case side1 => exact is104 HI0.out); (case side2 => exact bl104 HB.out); rintro e w15 ⟨rfl, hi, hb, hk⟩; refine ⟨_, rfl, ?_⟩; replace HK := Aside0.mk (KeepBut.trans (kp HK.out) hk (.inl rfl)); replace HB := Aside0.mk (hb); replace HI0 := Aside0.mk (hi); (try clear hb); (try clear hb2); (try clear hk); (try clear hi)) | ((with_reducible refine gate_callee (f := 103) rfl ?_); refine goesL_ (some 24) rfl rfl Try.func103 (by kernel_rfl) rfl #[.pointer (some ⟨g, 0, none⟩)] rfl mapd ?_; (with_reducible refine (spec_l01Byte.calls g s0_0 t1027 t1028 t1029 t1030 t1031 w0 _ ?side1 ?side2 A11.out).mono ?_); (case side1 => exact is104 HI0.out); (case side2 => exact bl104 HB.out); rintro e w16 ⟨rfl, hi, hb, hk⟩; refine ⟨_, rfl, ?_⟩; replace HK := Aside0.mk (KeepBut.trans (kp HK.out) hk (.inl rfl)); replace HB := Aside0.mk (hb); replace HI0 := Aside0.mk (hi); (try clear hb); (try clear hb2); (try clear hk); (try clear hi)))
    go_ret
    exact ⟨by first | rfl | (simp [errW_none, errW_some] <;> rfl) | (simp [*, errW_none, errW_some] <;> rfl), is104 HI0.out, bl104 HB.out, kp HK.out⟩
def spec_l01Once.f (s0_0 : List Int) (s0_1 : Int) (s0_2 : Int) (a1 : Int) : Option (Bool × Int × Int) := (spec_l01Below.f s0_0 s0_1 s0_2 a1).bind fun bt1032 => (some ((bt1032.1 == 0), bt1032.2.1, bt1032.2.2))
set_option maxHeartbeats 8000000 in
set_option maxRecDepth 100000 in
theorem spec_l01Once.calls (g : Nat) (s0_0 : List Int) (s0_1 : Int) (s0_2 : Int) (a1 : Int) (r1 : Bool) (r2 : Int) (r3 : Int) (w0 w : World) (hI : IsS104 w0 w g s0_0 s0_1 s0_2) (hB : Below w0.heap.size w0 w) (h : spec_l01Once.f s0_0 s0_1 s0_2 a1 = some (r1, r2, r3)) :
  Calls Try.prog 101 #[.pointer (some ⟨g, 0, none⟩), .int .i64 a1] w fun e w' => e = .returned (.bool r1) ∧ IsS104 w0 w' g s0_0 r2 r3 ∧ Below w0.heap.size w0 w' ∧ KeepBut w w' g none := by
 have HI0 := Aside0.mk hI
 have HK := Aside0.mk (KeepBut.refl w g none)
 have HL := Aside0.mk hB.size
 clear hI
 have HW0 := Aside0.mk hB.size
 have HB := Aside0.mk hB
 clear hB
 have H : ((spec_l01Below.f s0_0 s0_1 s0_2 a1).bind fun bt1032 => (some ((bt1032.1 == 0), bt1032.2.1, bt1032.2.2))) = some (r1, r2, r3) := h
 clear h
 replace H := Option.bind_eq_some_iff.mp H
 obtain ⟨⟨t1032, t1033, t1034⟩, A30, H⟩ := H
 try dsimp only at H
 have A3 := Aside0.mk A30
 clear A30
 simp only [Option.some.injEq, Prod.mk.injEq] at H
 obtain ⟨rfl, rfl, rfl⟩ := H
 go_enter Try.func101, Try.ntmps101
 go_wp2_with (first | ((with_reducible refine gate_callee (f := 97) rfl ?_); refine goesL_ (some 7) rfl rfl Try.func97 (by kernel_rfl) rfl #[.pointer (some ⟨g, 0, none⟩), .int .i64 a1] rfl mapd ?_; (with_reducible refine (spec_l01Below.calls g s0_0 s0_1 s0_2 a1 t1032 t1033 t1034 w0 _ ?side1 ?side2 A3.out).mono ?_); (case side1 => exact is104 HI0.out); (case side2 => exact bl104 HB.out); rintro e w4 ⟨rfl, hi, hb, hk⟩; refine ⟨_, rfl, ?_⟩; replace HK := Aside0.mk (KeepBut.trans (kp HK.out) hk (.inl rfl)); replace HB := Aside0.mk (hb); replace HI0 := Aside0.mk (hi); (try clear hb); (try clear hb2); (try clear hk); (try clear hi)))
 go_ret
 exact ⟨by first | rfl | (simp [errW_none, errW_some] <;> rfl) | (simp [*, errW_none, errW_some] <;> rfl), is104 HI0.out, bl104 HB.out, kp HK.out⟩
end Go.Proofs.Ytghfeapncmlihaa.A

namespace Go.Proofs.Ytghfeapncmlihaa.A
open Go.RowKit Go.Proofs.YtghfeapncmlihaaW.PrintWords Go.Proofs.YtghfeapncmlihaaW.PrintLast Go.Proofs.YtghfeapncmlihaaW.PrintMore
attribute [local go_sem] max2_int min2_int max_two min_two max_three min_three max_four min_four   
set_option linter.unusedVariables false
set_option linter.unusedSimpArgs false
theorem eqA54 (d : Nat) (w : World) (x0 y0 : Int) (x1 y1 : Int) (x2 y2 : Int) :
  (Op.equalIn (d + 2) 54 (.agg #[.int .i64 x0, .int .i64 x1, .int .i64 x2]) (.agg #[.int .i64 y0, .int .i64 y1, .int .i64 y2])).run Try.prog w = .ok (x0 == y0 && (x1 == y1 && (x2 == y2))) w := by
 refine eqA_of Try.underlying54 (by kernel_rfl) ?_
 refine eqf_cons (by rfl) (by go_simp; rfl) (by go_simp; rfl) (by go_simp) ?_
 refine eqf_cons (by rfl) (by go_simp; rfl) (by go_simp; rfl) (by go_simp) ?_
 exact eqf_last (by rfl) (by go_simp; rfl) (by go_simp; rfl) (by go_simp)
end Go.Proofs.Ytghfeapncmlihaa.A

namespace Go.Proofs.Ytghfeapncmlihaa.A
open Go.RowKit Go.Proofs.YtghfeapncmlihaaW.PrintWords Go.Proofs.YtghfeapncmlihaaW.PrintLast Go.Proofs.YtghfeapncmlihaaW.PrintMore
attribute [local go_sem] max2_int min2_int max_two min_two max_three min_three max_four min_four   
set_option linter.unusedVariables false
set_option linter.unusedSimpArgs false
def spec_NewColumn.l0 : Nat → Int → List Int → Int → Int → Int → List Int → List (S71) → Option (Int × List Int × (List (S71)) × Bool)
 | 0, _, _, _, _, _, _, _ => none
 | k + 1, x0, x1, x7, x8, x191000, x191001, x191002 => if x8 ≤ (x1.length : Int) then (if x8 < (x1.length : Int) then (if 0 ≤ x8 then (if (rd x1 x8) ≤ x7 then (some (0, ([] : List Int), ([] : List (S71)), false)) else (if (rd x1 x8) > 24 then (some (0, ([] : List Int), ([] : List (S71)), false)) else (if x191002.length < 4398046511104 then (spec_NewColumn.l0 k x0 x1 (rd x1 x8) (wrap64 (x8 + 1)) x191000 x191001 (x191002 ++ [(⟨x7, wrap64 ((rd x1 x8) - x7), 0, false⟩ : S71)])) else (none)))) else (none)) else (if x0 ≤ x7 then (some (0, ([] : List Int), ([] : List (S71)), false)) else (if x0 > 24 then (some (0, ([] : List Int), ([] : List (S71)), false)) else (if x191002.length < 4398046511104 then (spec_NewColumn.l0 k x0 x1 x0 (wrap64 (x8 + 1)) x191000 x191001 (x191002 ++ [(⟨x7, wrap64 (x0 - x7), 0, false⟩ : S71)])) else (none))))) else ((spec_ColumnOk.f k x191000 x191001 x191002).bind fun t191 => (if t191 = true then (some (x191000, x191001, x191002, true)) else (some (0, ([] : List Int), ([] : List (S71)), false))))
def spec_NewColumn.f (k : Nat) (a0 : Int) (l1 : List Int) : Option (Int × List Int × (List (S71)) × Bool) := (some (([] : List Int) : List Int)).bind fun y184 => (if y184.length + l1.length < 17592186044416 then (spec_NewColumn.l0 k a0 l1 0 0 a0 (y184 ++ l1) ([] : List (S71))) else (none))
set_option maxHeartbeats 8000000 in
set_option maxRecDepth 100000 in
theorem spec_NewColumn.calls (k : Nat) (a0 : Int) (A1 : Option Addr) (c1 : Nat) (l1 : List Int) (r1 : Int) (r2 : List Int) (r3 : List (S71)) (r4 : Bool) (w : World) (hr1 : Kd.C (Kd.int .i64) w A1 l1.length l1) (hc1 : l1.length ≤ c1) (h : spec_NewColumn.f k a0 l1 = some (r1, r2, r3, r4)) :
  Calls Try.prog 20 #[.int .i64 a0, .slice A1 l1.length c1] w fun e w' => ∃ v1_ v2_ : Value, e = .returned (.tuple #[.agg #[.int .i64 r1, v1_, v2_], .bool r4]) ∧ Kd.R (Kd.int .i64) 3 w' w.heap.size (fun _ => True) v1_ r2 ∧ Kd.R k71 71 w' w.heap.size (fun _ => True) v2_ r3 ∧ Below w.heap.size w w' := by
 have hu30 := Try.underlying30
 have hu71 := Try.underlying71
 have HR1 := Aside0.mk hr1
 have HC1 := Aside0.mk hc1
 clear hr1 hc1
 have HB := Aside0.mk (Below.refl w.heap.size w)
 have H : ((some (([] : List Int) : List Int)).bind fun y184 => (if y184.length + l1.length < 17592186044416 then (spec_NewColumn.l0 k a0 l1 0 0 a0 (y184 ++ l1) ([] : List (S71))) else (none))) = some (r1, r2, r3, r4) := h
 clear h
 obtain ⟨y184, hy184⟩ : ∃ y_ : List Int, y_ = (([] : List Int)) := ⟨_, rfl⟩
 replace H : (if y184.length + l1.length < 17592186044416 then (spec_NewColumn.l0 k a0 l1 0 0 a0 (y184 ++ l1) ([] : List (S71))) else (none)) = some (r1, r2, r3, r4) := by first | (rw [hy184]; with_reducible exact H) | (have H2_ := (Option.bind_some _ _).symm.trans H; rw [hy184]; with_reducible exact H2_) | (have H2_ := (Option.bind_some _ _).symm.trans H; with_reducible exact H2_) | with_reducible exact H | (rw [hy184]; exact H) | exact H
 have Ny184 := Aside0.mk hy184
 clear hy184
 by_cases c3 : y184.length + l1.length < 17592186044416
 ·rw [if_pos c3] at H
  have LMc3 := Aside0.mk c3
  clear c3
  obtain ⟨y187, hy187⟩ : ∃ y_ : List Int, y_ = (y184 ++ l1) := ⟨_, rfl⟩
  replace H : (spec_NewColumn.l0 k a0 l1 0 0 a0 y187 ([] : List (S71))) = some (r1, r2, r3, r4) := by first | (rw [hy187]; with_reducible exact H) | (have H2_ := (Option.bind_some _ _).symm.trans H; rw [hy187]; with_reducible exact H2_) | (have H2_ := (Option.bind_some _ _).symm.trans H; with_reducible exact H2_) | with_reducible exact H | (rw [hy187]; exact H) | exact H
  have Ny187 := Aside0.mk hy187
  clear hy187
  have H' := Aside0.mk H
  clear H
  go_enter Try.func20, Try.ntmps20
  go_wp2_with (first | ((with_reducible refine gate_dst (N := 4) rfl ?_); refine bx (cs := #[.int .i64 0, .slice none 0 0, .slice none 0 0]) (t := 30) fun gb183 hg w4 hbox hb => ?_; have BK183 := Aside0.mk (hbox); have GW183 := Aside0.mk (gs HB.out hg); have GE183 := Aside0.mk (gs HB.out hg); replace HB := Aside0.mk (below_step (bl HB.out) hb); clear hb hbox hg) | ((with_reducible refine gate_dst (N := 11) rfl ?_); refine Kd.R_lit (Kd.int .i64) _ 3 ?hg (N := 11) ?hd (xs := ([] : List Int)) (inner := []) (ok := fun _ => True) (okp := fun _ => True) ?hr ?hp (fun _ hk => hk) trivial (Below.refl _ _) (Nat.le_refl _) (by simp) ?_; (case hd => rfl); (case hg => rfl); (case hr => first | (go_simp; done) | (go_simp; rfl)); (case hp => exact (Reps.none _ _)); intro v185 w5 ho6 hb hg_ hnew_; clear hg_ hnew_; (first | rw [← Ny184.out] at ho6 | (simp only [Int.reduceToNat] at ho6; rw [← Ny184.out] at ho6)); have HO186 := Aside0.mk (Kd.R_lower ho6 (below_size (bl HB.out))); replace BK183 := Aside0.mk (bb BK183.out hb); replace HB := Aside0.mk (below_step (bl HB.out) hb); clear hb ho6) | ((with_reducible refine gate_builtin (b := .append) (xs := #[.tmp 11, .tmp 12]) rfl ?_); at_builtin; refine Kd.R_append_rows (Kd.int .i64) (w0 := w) w.heap.size rfl (.tmp 11) (.tmp 12) 22 3 (.int .i64 0) 8 rfl Try.underlying22 info3 rfl (by decide) (by omega) v185 y184 l1 _ _ _ (fun _ => True) (fun _ => False) rfl rfl ?aO ?aR (fun _ _ h => h) (fun _ h => h.elim) ?aF ?aB ?aS ?aL ?_; (case aR => exact cb (Kd.C_below HR1.out HB.out)); (case aB => exact (bl HB.out)); (case aF => exact (fun _ _ => trivial)); (case aO => exact (rk HO186.out)); (case aS => exact (below_size (bl HB.out))); (case aL => have := LMc3.out; omega); intro v188 w7 ho hb hg hat; rw [← Ny187.out] at ho; replace BK183 := Aside0.mk (blk_grown (g := gb183) (o := .cells #[.int .i64 0, .slice none 0 0, .slice none 0 0] 30 (0, 0)) (bk BK183.out) hg (Kd.R_ne HO186.out BK183.out (by decide))); replace HB := Aside0.mk (hb); have HO189 := Aside0.mk (ho); clear HO186; clear ho hb hg hat; obtain ⟨Ao8, co8, eo8⟩ := Kd.R_slice HO189.out; subst eo8) | ((with_reducible refine gate_dst (N := 6) rfl ?_); refine bx (cs := #[.int .i64 0, .slice none 0 0, .slice none 0 0]) (t := 30) fun gb190 hg w9 hbox hb => ?_; replace HO189 := Aside0.mk (Kd.R_below (rk HO189.out) hb); have BK190 := Aside0.mk (hbox); have GW190 := Aside0.mk (gs HB.out hg); have GE190 := Aside0.mk (gs HB.out hg); replace HB := Aside0.mk (below_step (bl HB.out) hb); have NB183_190 := Aside0.mk ((nl BK183.out hg)); have NB190_183 := Aside0.mk ((ng BK183.out hg)); replace BK183 := Aside0.mk (bb BK183.out hb); clear hb hbox hg; have hnb10 := NB190_183.out; have hnc10 := NB183_190.out; obtain ⟨hcz11_0, hcz11_1, hcz11_2, hfz11_0, hfz11_1, hfz11_2⟩ := cz3 BK190.out))
  go_loopg [7, 8] k (fun kq v7 v8 w' => ∃ (x7_1 : Int) (x8_1 : Int) (x184000_1 : Int) (x191002_1 : List (S71)) (u191002 : Value), v7 = .int .i64 x7_1 ∧ v8 = .int .i64 x8_1 ∧ Aside0 (spec_NewColumn.l0 kq a0 l1 x7_1 x8_1 a0 y187 x191002_1 = some (r1, r2, r3, r4)) ∧ Aside0 (kq ≤ k) ∧ Aside0 (Kd.R (Kd.int .i64) 3 w' w.heap.size (fun _ => True) (.slice Ao8 y187.length co8) y187) ∧ Aside0 (Kd.R k71 71 w' w.heap.size (fun _ => True) u191002 x191002_1) ∧ Aside0 (w'.heap[gb183]? = some (.cells #[.int .i64 x184000_1, (.slice none 0 0), (.slice none 0 0)] 30 (0, 0))) ∧ Aside0 (w'.heap[gb190]? = some (.cells #[.int .i64 a0, (.slice Ao8 y187.length co8), u191002] 30 (0, 0))) ∧ Aside0 (Below w.heap.size w w'))
  case atStart => exact ⟨(0), (0), (0), (([] : List (S71))), (.slice none 0 0), (by first | rfl | (simp; done) | (simp [*]; done)), (by first | rfl | (simp; done) | (simp [*]; done)), H', ⟨Nat.le_refl _⟩, ⟨by refine rk ?_; exact Kd.R_mono (Kd.R_far (p := ⟨gb190, 2, none⟩) (Kd.R_far (p := ⟨gb190, 1, none⟩) (Kd.R_far (p := ⟨gb190, 0, none⟩) (Kd.R_types HO189.out BK190.out (by decide)) (fun _ hk => hk.2) (.int .i64 a0)) (fun _ hk => hk.2) (.slice Ao8 y187.length co8)) (fun _ hk => hk.2) (.slice none 0 0)) (fun _ hk => trivial)⟩, ⟨by first | exact Kd.R_nil _ _ _ _ _ | exact Kd.N_nil _ _ _ _ _ | exact Kd.V_nil _ _ _ _ _ | exact Kd.Q_nil _ _ _ _ _ | exact Kd.S_nil _ _ _ _ _⟩, ⟨by refine bk ?_; refine blk_far ?_ NB183_190.out _; refine bk ?_; refine blk_far ?_ NB183_190.out _; refine bk ?_; refine blk_far ?_ NB183_190.out _; refine bk ?_; exact BK183.out⟩, ⟨by refine bk ?_; refine blk_put (cs := #[.int .i64 a0, .slice Ao8 y187.length co8, .slice none 0 0]) ?_ 2 _ rfl; refine bk ?_; refine blk_put (cs := #[.int .i64 a0, .slice none 0 0, .slice none 0 0]) ?_ 1 _ rfl; refine bk ?_; refine blk_put (cs := #[.int .i64 0, .slice none 0 0, .slice none 0 0]) ?_ 0 _ rfl; refine bk ?_; exact BK190.out⟩, ⟨bl HB.out⟩⟩
  case round =>
   clear H'
   try clear c1
   try clear c2
   try clear p2
   try clear c3
   try clear c10
   try clear hcz11_0
   try clear hcz11_1
   try clear hcz11_2
   try clear hfz11_0
   try clear hfz11_1
   try clear hfz11_2
   obtain ⟨x7_1, x8_1, x184000_1, x191002_1, u191002, rfl, rfl, HA, HK1, HO_191001, HO_191002, BK183, BK190, HB⟩ := hrel
   cases gk with
   | zero => exact absurd HA.out (by simp [spec_NewColumn.l0])
   | succ k1 =>
    have H := HA.out
    clear HA
    simp only [spec_NewColumn.l0] at H
    by_cases c12 : x8_1 ≤ (l1.length : Int)
    ·rw [if_pos c12] at H
     have c12b0 : decide (x8_1 ≤ (l1.length : Int)) = true := decide_eq_true c12
     clear c12
     by_cases c13 : x8_1 < (l1.length : Int)
     ·rw [if_pos c13] at H
      have c13b0 : decide (x8_1 < (l1.length : Int)) = true := decide_eq_true c13
      clear c13
      by_cases c14 : 0 ≤ x8_1
      ·rw [if_pos c14] at H
       have c14b0 : decide (0 ≤ x8_1) = true := decide_eq_true c14
       clear c14
       by_cases c15 : (rd l1 x8_1) ≤ x7_1
       ·rw [if_pos c15] at H
        have c15b0 : decide ((rd l1 x8_1) ≤ x7_1) = true := decide_eq_true c15
        clear c15
        simp only [Option.some.injEq, Prod.mk.injEq] at H
        obtain ⟨rfl, rfl, rfl, rfl⟩ := H
        have p192 : 0 ≤ (x8_1 : Int) := of_decide_eq_true asm
        have q192 : x8_1 < (l1.length : Int) := of_decide_eq_true asm
        obtain ⟨ad192, e192, hx192_0⟩ := Kd.at_int HR1.out x8_1 p192 q192
        cases e192
        replace hx192_0 := (HB.out.cell (World.block_lt_of_cell? w _ hx192_0)).trans hx192_0
        replace p192 := eq_true p192
        replace q192 := eq_true q192
        have hnb16 := NB183_190.out
        have hnc16 := NB190_183.out
        obtain ⟨hcz17_0, hcz17_1, hcz17_2, hfz17_0, hfz17_1, hfz17_2⟩ := cz3 BK183.out
        go_wp2
        refine bodyPost_ret (results_ct rfl _ _ gb183 30 #[.int .i64 0, .slice none 0 0, .slice none 0 0] (0, 0) _ rfl (by refine bk ?_; refine blk_put (cs := #[.int .i64 0, .slice none 0 0, .slice none 0 0]) ?_ 2 _ rfl; refine bk ?_; refine blk_put (cs := #[.int .i64 0, .slice none 0 0, .slice none 0 0]) ?_ 1 _ rfl; refine bk ?_; refine blk_put (cs := #[.int .i64 x184000_1, .slice none 0 0, .slice none 0 0]) ?_ 0 _ rfl; refine bk ?_; exact BK183.out) Try.underlying30 rfl (by kernel_rfl)) rfl ?_
        exact ⟨_, _, by first | rfl | (simp [errW_none, errW_some] <;> rfl) | (simp [*, errW_none, errW_some] <;> rfl), by first | exact Kd.R_nil _ _ _ _ _ | exact Kd.N_nil _ _ _ _ _ | exact Kd.V_nil _ _ _ _ _ | exact Kd.Q_nil _ _ _ _ _ | exact Kd.S_nil _ _ _ _ _, by first | exact Kd.R_nil _ _ _ _ _ | exact Kd.N_nil _ _ _ _ _ | exact Kd.V_nil _ _ _ _ _ | exact Kd.Q_nil _ _ _ _ _ | exact Kd.S_nil _ _ _ _ _, bl HB.out⟩
       ·rw [if_neg c15] at H
        have c15b0 : decide ((rd l1 x8_1) ≤ x7_1) = false := decide_eq_false c15
        clear c15
        by_cases c18 : (rd l1 x8_1) > 24
        ·rw [if_pos c18] at H
         have c18b0 : decide (24 < (rd l1 x8_1)) = true := decide_eq_true c18
         clear c18
         simp only [Option.some.injEq, Prod.mk.injEq] at H
         obtain ⟨rfl, rfl, rfl, rfl⟩ := H
         have p192 : 0 ≤ (x8_1 : Int) := of_decide_eq_true asm
         have q192 : x8_1 < (l1.length : Int) := of_decide_eq_true asm
         obtain ⟨ad192, e192, hx192_0⟩ := Kd.at_int HR1.out x8_1 p192 q192
         cases e192
         replace hx192_0 := (HB.out.cell (World.block_lt_of_cell? w _ hx192_0)).trans hx192_0
         replace p192 := eq_true p192
         replace q192 := eq_true q192
         have hnb19 := NB183_190.out
         have hnc19 := NB190_183.out
         obtain ⟨hcz20_0, hcz20_1, hcz20_2, hfz20_0, hfz20_1, hfz20_2⟩ := cz3 BK183.out
         go_wp2
         refine bodyPost_ret (results_ct rfl _ _ gb183 30 #[.int .i64 0, .slice none 0 0, .slice none 0 0] (0, 0) _ rfl (by refine bk ?_; refine blk_put (cs := #[.int .i64 0, .slice none 0 0, .slice none 0 0]) ?_ 2 _ rfl; refine bk ?_; refine blk_put (cs := #[.int .i64 0, .slice none 0 0, .slice none 0 0]) ?_ 1 _ rfl; refine bk ?_; refine blk_put (cs := #[.int .i64 x184000_1, .slice none 0 0, .slice none 0 0]) ?_ 0 _ rfl; refine bk ?_; exact BK183.out) Try.underlying30 rfl (by kernel_rfl)) rfl ?_
         exact ⟨_, _, by first | rfl | (simp [errW_none, errW_some] <;> rfl) | (simp [*, errW_none, errW_some] <;> rfl), by first | exact Kd.R_nil _ _ _ _ _ | exact Kd.N_nil _ _ _ _ _ | exact Kd.V_nil _ _ _ _ _ | exact Kd.Q_nil _ _ _ _ _ | exact Kd.S_nil _ _ _ _ _, by first | exact Kd.R_nil _ _ _ _ _ | exact Kd.N_nil _ _ _ _ _ | exact Kd.V_nil _ _ _ _ _ | exact Kd.Q_nil _ _ _ _ _ | exact Kd.S_nil _ _ _ _ _, bl HB.out⟩
        ·rw [if_neg c18] at H
         have c18b0 : decide (24 < (rd l1 x8_1)) = false := decide_eq_false c18
         clear c18
         by_cases c21 : x191002_1.length < 4398046511104
         ·rw [if_pos c21] at H
          have LMc21 := Aside0.mk c21
          clear c21
          obtain ⟨y193, hy193⟩ : ∃ y_ : List (S71), y_ = (x191002_1 ++ [(⟨x7_1, wrap64 ((rd l1 x8_1) - x7_1), 0, false⟩ : S71)]) := ⟨_, rfl⟩
          replace H : (spec_NewColumn.l0 k1 a0 l1 (rd l1 x8_1) (wrap64 (x8_1 + 1)) a0 y187 y193) = some (r1, r2, r3, r4) := by first | (rw [hy193]; with_reducible exact H) | (have H2_ := (Option.bind_some _ _).symm.trans H; rw [hy193]; with_reducible exact H2_) | (have H2_ := (Option.bind_some _ _).symm.trans H; with_reducible exact H2_) | with_reducible exact H | (rw [hy193]; exact H) | exact H
          have Ny193 := Aside0.mk hy193
          clear hy193
          have H' := Aside0.mk H
          clear H
          have p192 : 0 ≤ (x8_1 : Int) := of_decide_eq_true asm
          have q192 : x8_1 < (l1.length : Int) := of_decide_eq_true asm
          obtain ⟨ad192, e192, hx192_0⟩ := Kd.at_int HR1.out x8_1 p192 q192
          cases e192
          replace hx192_0 := (HB.out.cell (World.block_lt_of_cell? w _ hx192_0)).trans hx192_0
          replace p192 := eq_true p192
          replace q192 := eq_true q192
          have hnb22 := NB190_183.out
          have hnc22 := NB183_190.out
          obtain ⟨hcz23_0, hcz23_1, hcz23_2, hfz23_0, hfz23_1, hfz23_2⟩ := cz3 BK190.out
          go_wp2_with (first | ((with_reducible refine gate_builtin (b := .append) (xs := #[.tmp 39, .tmp 45]) rfl ?_); at_builtin; refine Kd.R_append k71 (w0 := w) w.heap.size rfl (.tmp 39) (.tmp 45) 28 71 (.agg #[(.int .i64 0), (.int .i64 0), (.int .i64 0), (.bool false)]) 32 rfl Try.underlying28 info71 rfl (by decide) (by omega) u191002 x191002_1 (⟨x7_1, wrap64 ((rd l1 x8_1) - x7_1), 0, false⟩ : S71) [.int .i64 x7_1, .int .i64 (wrap64 ((rd l1 x8_1) - x7_1)), .int .i64 0, .bool false] (fun _ => True) (fun _ => False) rfl rfl ?aP (fun _ hk => hk.elim) ?aF ?aO ?aB ?aS ?aL ?_; (case aP => exact k71_mkM _ _ _ (⟨x7_1, wrap64 ((rd l1 x8_1) - x7_1), 0, false⟩ : S71)); (case aB => exact (bl HB.out)); (case aF => exact (fun _ _ => trivial)); (case aO => exact (rk HO_191002.out)); (case aS => exact (below_size (bl HB.out))); (case aL => have := LMc21.out; omega); intro v194 w24 ho hb hg hat; rw [← Ny193.out] at ho; replace HO_191001 := Aside0.mk (Kd.R_over' (rk HO_191001.out) (Kd.R_typed (rk HO_191002.out)) (by decide) hg); replace BK183 := Aside0.mk (blk_grown (g := gb183) (o := .cells #[.int .i64 x184000_1, .slice none 0 0, .slice none 0 0] 30 (0, 0)) (bk BK183.out) hg (Kd.R_ne HO_191002.out BK183.out (by decide))); replace BK190 := Aside0.mk (blk_grown (g := gb190) (o := .cells #[.int .i64 a0, .slice Ao8 y187.length co8, u191002] 30 (0, 0)) (bk BK190.out) hg (Kd.R_ne HO_191002.out BK190.out (by decide))); replace HB := Aside0.mk (hb); have HO195 := Aside0.mk (ho); clear HO_191002; clear ho hb hg hat; obtain ⟨Ao25, co25, eo25⟩ := Kd.R_slice HO195.out; subst eo25; obtain ⟨hcz26_0, hcz26_1, hcz26_2, hfz26_0, hfz26_1, hfz26_2⟩ := cz3 BK190.out))
          go_roundg k1
          case measure => have := HK1.out; omega
          case rel => exact ⟨(rd l1 x8_1), (wrap64 (x8_1 + 1)), (x184000_1), (y193), (.slice Ao25 y193.length co25), (by first | rfl | (simp; done) | (simp [*]; done)), (by first | rfl | (simp; done) | (simp [*]; done)), H', ⟨by have := HK1.out; omega⟩, ⟨by refine rk ?_; exact Kd.R_mono (Kd.R_far (p := ⟨gb190, 2, none⟩) (Kd.R_types HO_191001.out BK190.out (by decide)) (fun _ hk => hk.2) (.slice Ao25 y193.length co25)) (fun _ hk => trivial)⟩, ⟨by refine rk ?_; exact Kd.R_mono (Kd.R_far (p := ⟨gb190, 2, none⟩) (Kd.R_types HO195.out BK190.out (by decide)) (fun _ hk => hk.2) (.slice Ao25 y193.length co25)) (fun _ hk => trivial)⟩, ⟨by refine bk ?_; refine blk_far ?_ NB183_190.out _; refine bk ?_; exact BK183.out⟩, ⟨by refine bk ?_; refine blk_put (cs := #[.int .i64 a0, .slice Ao8 y187.length co8, u191002]) ?_ 2 _ rfl; refine bk ?_; exact BK190.out⟩, ⟨bl HB.out⟩⟩
         ·rw [if_neg c21] at H
          exact absurd H (by simp)
      ·rw [if_neg c14] at H
       exact absurd H (by simp)
     ·rw [if_neg c13] at H
      have c13b0 : decide (x8_1 < (l1.length : Int)) = false := decide_eq_false c13
      clear c13
      by_cases c27 : a0 ≤ x7_1
      ·rw [if_pos c27] at H
       have c27b0 : decide (a0 ≤ x7_1) = true := decide_eq_true c27
       clear c27
       simp only [Option.some.injEq, Prod.mk.injEq] at H
       obtain ⟨rfl, rfl, rfl, rfl⟩ := H
       have hnb28 := NB183_190.out
       have hnc28 := NB190_183.out
       obtain ⟨hcz29_0, hcz29_1, hcz29_2, hfz29_0, hfz29_1, hfz29_2⟩ := cz3 BK183.out
       go_wp2
       refine bodyPost_ret (results_ct rfl _ _ gb183 30 #[.int .i64 0, .slice none 0 0, .slice none 0 0] (0, 0) _ rfl (by refine bk ?_; refine blk_put (cs := #[.int .i64 0, .slice none 0 0, .slice none 0 0]) ?_ 2 _ rfl; refine bk ?_; refine blk_put (cs := #[.int .i64 0, .slice none 0 0, .slice none 0 0]) ?_ 1 _ rfl; refine bk ?_; refine blk_put (cs := #[.int .i64 x184000_1, .slice none 0 0, .slice none 0 0]) ?_ 0 _ rfl; refine bk ?_; exact BK183.out) Try.underlying30 rfl (by kernel_rfl)) rfl ?_
       exact ⟨_, _, by first | rfl | (simp [errW_none, errW_some] <;> rfl) | (simp [*, errW_none, errW_some] <;> rfl), by first | exact Kd.R_nil _ _ _ _ _ | exact Kd.N_nil _ _ _ _ _ | exact Kd.V_nil _ _ _ _ _ | exact Kd.Q_nil _ _ _ _ _ | exact Kd.S_nil _ _ _ _ _, by first | exact Kd.R_nil _ _ _ _ _ | exact Kd.N_nil _ _ _ _ _ | exact Kd.V_nil _ _ _ _ _ | exact Kd.Q_nil _ _ _ _ _ | exact Kd.S_nil _ _ _ _ _, bl HB.out⟩
      ·rw [if_neg c27] at H
       have c27b0 : decide (a0 ≤ x7_1) = false := decide_eq_false c27
       clear c27
       by_cases c30 : a0 > 24
       ·rw [if_pos c30] at H
        have c30b0 : decide (24 < a0) = true := decide_eq_true c30
        clear c30
        simp only [Option.some.injEq, Prod.mk.injEq] at H
        obtain ⟨rfl, rfl, rfl, rfl⟩ := H
        have hnb31 := NB183_190.out
        have hnc31 := NB190_183.out
        obtain ⟨hcz32_0, hcz32_1, hcz32_2, hfz32_0, hfz32_1, hfz32_2⟩ := cz3 BK183.out
        go_wp2
        refine bodyPost_ret (results_ct rfl _ _ gb183 30 #[.int .i64 0, .slice none 0 0, .slice none 0 0] (0, 0) _ rfl (by refine bk ?_; refine blk_put (cs := #[.int .i64 0, .slice none 0 0, .slice none 0 0]) ?_ 2 _ rfl; refine bk ?_; refine blk_put (cs := #[.int .i64 0, .slice none 0 0, .slice none 0 0]) ?_ 1 _ rfl; refine bk ?_; refine blk_put (cs := #[.int .i64 x184000_1, .slice none 0 0, .slice none 0 0]) ?_ 0 _ rfl; refine bk ?_; exact BK183.out) Try.underlying30 rfl (by kernel_rfl)) rfl ?_
        exact ⟨_, _, by first | rfl | (simp [errW_none, errW_some] <;> rfl) | (simp [*, errW_none, errW_some] <;> rfl), by first | exact Kd.R_nil _ _ _ _ _ | exact Kd.N_nil _ _ _ _ _ | exact Kd.V_nil _ _ _ _ _ | exact Kd.Q_nil _ _ _ _ _ | exact Kd.S_nil _ _ _ _ _, by first | exact Kd.R_nil _ _ _ _ _ | exact Kd.N_nil _ _ _ _ _ | exact Kd.V_nil _ _ _ _ _ | exact Kd.Q_nil _ _ _ _ _ | exact Kd.S_nil _ _ _ _ _, bl HB.out⟩
       ·rw [if_neg c30] at H
        have c30b0 : decide (24 < a0) = false := decide_eq_false c30
        clear c30
        by_cases c33 : x191002_1.length < 4398046511104
        ·rw [if_pos c33] at H
         have LMc33 := Aside0.mk c33
         clear c33
         obtain ⟨y196, hy196⟩ : ∃ y_ : List (S71), y_ = (x191002_1 ++ [(⟨x7_1, wrap64 (a0 - x7_1), 0, false⟩ : S71)]) := ⟨_, rfl⟩
         replace H : (spec_NewColumn.l0 k1 a0 l1 a0 (wrap64 (x8_1 + 1)) a0 y187 y196) = some (r1, r2, r3, r4) := by first | (rw [hy196]; with_reducible exact H) | (have H2_ := (Option.bind_some _ _).symm.trans H; rw [hy196]; with_reducible exact H2_) | (have H2_ := (Option.bind_some _ _).symm.trans H; with_reducible exact H2_) | with_reducible exact H | (rw [hy196]; exact H) | exact H
         have Ny196 := Aside0.mk hy196
         clear hy196
         have H' := Aside0.mk H
         clear H
         have hnb34 := NB190_183.out
         have hnc34 := NB183_190.out
         obtain ⟨hcz35_0, hcz35_1, hcz35_2, hfz35_0, hfz35_1, hfz35_2⟩ := cz3 BK190.out
         go_wp2_with (first | ((with_reducible refine gate_builtin (b := .append) (xs := #[.tmp 39, .tmp 45]) rfl ?_); at_builtin; refine Kd.R_append k71 (w0 := w) w.heap.size rfl (.tmp 39) (.tmp 45) 28 71 (.agg #[(.int .i64 0), (.int .i64 0), (.int .i64 0), (.bool false)]) 32 rfl Try.underlying28 info71 rfl (by decide) (by omega) u191002 x191002_1 (⟨x7_1, wrap64 (a0 - x7_1), 0, false⟩ : S71) [.int .i64 x7_1, .int .i64 (wrap64 (a0 - x7_1)), .int .i64 0, .bool false] (fun _ => True) (fun _ => False) rfl rfl ?aP (fun _ hk => hk.elim) ?aF ?aO ?aB ?aS ?aL ?_; (case aP => exact k71_mkM _ _ _ (⟨x7_1, wrap64 (a0 - x7_1), 0, false⟩ : S71)); (case aB => exact (bl HB.out)); (case aF => exact (fun _ _ => trivial)); (case aO => exact (rk HO_191002.out)); (case aS => exact (below_size (bl HB.out))); (case aL => have := LMc33.out; omega); intro v197 w36 ho hb hg hat; rw [← Ny196.out] at ho; replace HO_191001 := Aside0.mk (Kd.R_over' (rk HO_191001.out) (Kd.R_typed (rk HO_191002.out)) (by decide) hg); replace BK183 := Aside0.mk (blk_grown (g := gb183) (o := .cells #[.int .i64 x184000_1, .slice none 0 0, .slice none 0 0] 30 (0, 0)) (bk BK183.out) hg (Kd.R_ne HO_191002.out BK183.out (by decide))); replace BK190 := Aside0.mk (blk_grown (g := gb190) (o := .cells #[.int .i64 a0, .slice Ao8 y187.length co8, u191002] 30 (0, 0)) (bk BK190.out) hg (Kd.R_ne HO_191002.out BK190.out (by decide))); replace HB := Aside0.mk (hb); have HO198 := Aside0.mk (ho); clear HO_191002; clear ho hb hg hat; obtain ⟨Ao37, co37, eo37⟩ := Kd.R_slice HO198.out; subst eo37; obtain ⟨hcz38_0, hcz38_1, hcz38_2, hfz38_0, hfz38_1, hfz38_2⟩ := cz3 BK190.out))
         go_roundg k1
         case measure => have := HK1.out; omega
         case rel => exact ⟨(a0), (wrap64 (x8_1 + 1)), (x184000_1), (y196), (.slice Ao37 y196.length co37), (by first | rfl | (simp; done) | (simp [*]; done)), (by first | rfl | (simp; done) | (simp [*]; done)), H', ⟨by have := HK1.out; omega⟩, ⟨by refine rk ?_; exact Kd.R_mono (Kd.R_far (p := ⟨gb190, 2, none⟩) (Kd.R_types HO_191001.out BK190.out (by decide)) (fun _ hk => hk.2) (.slice Ao37 y196.length co37)) (fun _ hk => trivial)⟩, ⟨by refine rk ?_; exact Kd.R_mono (Kd.R_far (p := ⟨gb190, 2, none⟩) (Kd.R_types HO198.out BK190.out (by decide)) (fun _ hk => hk.2) (.slice Ao37 y196.length co37)) (fun _ hk => trivial)⟩, ⟨by refine bk ?_; refine blk_far ?_ NB183_190.out _; refine bk ?_; exact BK183.out⟩, ⟨by refine bk ?_; refine blk_put (cs := #[.int .i64 a0, .slice Ao8 y187.length co8, u191002]) ?_ 2 _ rfl; refine bk ?_; exact BK190.out⟩, ⟨bl HB.out⟩⟩
        ·rw [if_neg c33] at H
         exact absurd H (by simp)
    ·rw [if_neg c12] at H
     have c12b0 : decide (x8_1 ≤ (l1.length : Int)) = false := decide_eq_false c12
     clear c12
     replace H := Option.bind_eq_some_iff.mp H
     obtain ⟨t191, A390, H⟩ := H
     try dsimp only at H
     have A39 := Aside0.mk A390
     clear A390
     by_cases c40 : t191 = true
     ·subst c40
      rw [if_pos rfl] at H
      simp only [Option.some.injEq, Prod.mk.injEq] at H
      obtain ⟨rfl, rfl, rfl, rfl⟩ := H
      have hnb41 := NB190_183.out
      have hnc41 := NB183_190.out
      obtain ⟨hcz42_0, hcz42_1, hcz42_2, hfz42_0, hfz42_1, hfz42_2⟩ := cz3 BK190.out
      obtain ⟨Ao43, co43, eo43⟩ := Kd.R_slice HO_191002.out
      subst eo43
      go_wp2_with (first | ((with_reducible refine gate_callee (f := 16) rfl ?_); refine goesL_ (some 50) rfl rfl Try.func16 (by kernel_rfl) rfl #[.agg #[.int .i64 a0, .slice Ao8 y187.length co8, .slice Ao43 x191002_1.length co43]] rfl mapd ?_; (with_reducible refine (spec_ColumnOk.calls k1 a0 _ _ y187 _ _ x191002_1 true _ ?side1 ?side2 ?side3 ?side4 A39.out).mono ?_); (case side1 => exact cb ((Kd.R_reads' HO_191001.out).2.2)); (case side2 => exact (Kd.R_reads' HO_191001.out).2.1); (case side3 => exact cb ((Kd.R_reads' HO_191002.out).2.2)); (case side4 => exact (Kd.R_reads' HO_191002.out).2.1); rintro e w44 ⟨rfl, hb⟩; refine ⟨_, rfl, ?_⟩; replace HO_191001 := Aside0.mk (Kd.R_below (rk HO_191001.out) hb); replace HO_191002 := Aside0.mk (Kd.R_below (rk HO_191002.out) hb); replace BK183 := Aside0.mk (bb BK183.out hb); replace BK190 := Aside0.mk (bb BK190.out hb); replace HB := Aside0.mk (below_step (bl HB.out) hb); (try clear hb); (try clear hb2); (try clear hk); (try clear hi); obtain ⟨hcz45_0, hcz45_1, hcz45_2, hfz45_0, hfz45_1, hfz45_2⟩ := cz3 BK190.out; obtain ⟨hcz46_0, hcz46_1, hcz46_2, hfz46_0, hfz46_1, hfz46_2⟩ := cz3 BK183.out))
      refine bodyPost_ret (results_ct rfl _ _ gb183 30 #[.int .i64 a0, .slice Ao8 y187.length co8, .slice Ao43 x191002_1.length co43] (0, 0) _ rfl (by refine bk ?_; refine blk_put (cs := #[.int .i64 a0, .slice Ao8 y187.length co8, .slice none 0 0]) ?_ 2 _ rfl; refine bk ?_; refine blk_put (cs := #[.int .i64 a0, .slice none 0 0, .slice none 0 0]) ?_ 1 _ rfl; refine bk ?_; refine blk_put (cs := #[.int .i64 x184000_1, .slice none 0 0, .slice none 0 0]) ?_ 0 _ rfl; refine bk ?_; exact BK183.out) Try.underlying30 rfl (by kernel_rfl)) rfl ?_
      exact ⟨_, _, by first | rfl | (simp [errW_none, errW_some] <;> rfl) | (simp [*, errW_none, errW_some] <;> rfl), by refine rk ?_; exact Kd.R_mono (Kd.R_far (p := ⟨gb183, 2, none⟩) (Kd.R_far (p := ⟨gb183, 1, none⟩) (Kd.R_far (p := ⟨gb183, 0, none⟩) (Kd.R_types HO_191001.out BK183.out (by decide)) (fun _ hk => hk.2) (.int .i64 a0)) (fun _ hk => hk.2) (.slice Ao8 y187.length co8)) (fun _ hk => hk.2) (.slice Ao43 x191002_1.length co43)) (fun _ hk => trivial), by refine rk ?_; exact Kd.R_mono (Kd.R_far (p := ⟨gb183, 2, none⟩) (Kd.R_far (p := ⟨gb183, 1, none⟩) (Kd.R_far (p := ⟨gb183, 0, none⟩) (Kd.R_types HO_191002.out BK183.out (by decide)) (fun _ hk => hk.2) (.int .i64 a0)) (fun _ hk => hk.2) (.slice Ao8 y187.length co8)) (fun _ hk => hk.2) (.slice Ao43 x191002_1.length co43)) (fun _ hk => trivial), bl HB.out⟩
     ·replace c40 := Bool.eq_false_iff.mpr c40
      subst c40
      rw [if_neg (show ¬ (false = true) by decide)] at H
      simp only [Option.some.injEq, Prod.mk.injEq] at H
      obtain ⟨rfl, rfl, rfl, rfl⟩ := H
      have hnb47 := NB190_183.out
      have hnc47 := NB183_190.out
      obtain ⟨hcz48_0, hcz48_1, hcz48_2, hfz48_0, hfz48_1, hfz48_2⟩ := cz3 BK190.out
      obtain ⟨Ao49, co49, eo49⟩ := Kd.R_slice HO_191002.out
      subst eo49
      go_wp2_with (first | ((with_reducible refine gate_callee (f := 16) rfl ?_); refine goesL_ (some 50) rfl rfl Try.func16 (by kernel_rfl) rfl #[.agg #[.int .i64 a0, .slice Ao8 y187.length co8, .slice Ao49 x191002_1.length co49]] rfl mapd ?_; (with_reducible refine (spec_ColumnOk.calls k1 a0 _ _ y187 _ _ x191002_1 false _ ?side1 ?side2 ?side3 ?side4 A39.out).mono ?_); (case side1 => exact cb ((Kd.R_reads' HO_191001.out).2.2)); (case side2 => exact (Kd.R_reads' HO_191001.out).2.1); (case side3 => exact cb ((Kd.R_reads' HO_191002.out).2.2)); (case side4 => exact (Kd.R_reads' HO_191002.out).2.1); rintro e w50 ⟨rfl, hb⟩; refine ⟨_, rfl, ?_⟩; replace HO_191001 := Aside0.mk (Kd.R_below (rk HO_191001.out) hb); replace HO_191002 := Aside0.mk (Kd.R_below (rk HO_191002.out) hb); replace BK183 := Aside0.mk (bb BK183.out hb); replace BK190 := Aside0.mk (bb BK190.out hb); replace HB := Aside0.mk (below_step (bl HB.out) hb); (try clear hb); (try clear hb2); (try clear hk); (try clear hi); obtain ⟨hcz51_0, hcz51_1, hcz51_2, hfz51_0, hfz51_1, hfz51_2⟩ := cz3 BK183.out))
      refine bodyPost_ret (results_ct rfl _ _ gb183 30 #[.int .i64 0, .slice none 0 0, .slice none 0 0] (0, 0) _ rfl (by refine bk ?_; refine blk_put (cs := #[.int .i64 0, .slice none 0 0, .slice none 0 0]) ?_ 2 _ rfl; refine bk ?_; refine blk_put (cs := #[.int .i64 0, .slice none 0 0, .slice none 0 0]) ?_ 1 _ rfl; refine bk ?_; refine blk_put (cs := #[.int .i64 x184000_1, .slice none 0 0, .slice none 0 0]) ?_ 0 _ rfl; refine bk ?_; exact BK183.out) Try.underlying30 rfl (by kernel_rfl)) rfl ?_
      exact ⟨_, _, by first | rfl | (simp [errW_none, errW_some] <;> rfl) | (simp [*, errW_none, errW_some] <;> rfl), by first | exact Kd.R_nil _ _ _ _ _ | exact Kd.N_nil _ _ _ _ _ | exact Kd.V_nil _ _ _ _ _ | exact Kd.Q_nil _ _ _ _ _ | exact Kd.S_nil _ _ _ _ _, by first | exact Kd.R_nil _ _ _ _ _ | exact Kd.N_nil _ _ _ _ _ | exact Kd.V_nil _ _ _ _ _ | exact Kd.Q_nil _ _ _ _ _ | exact Kd.S_nil _ _ _ _ _, bl HB.out⟩
 ·rw [if_neg c3] at H
  exact absurd H (by simp)
end Go.Proofs.Ytghfeapncmlihaa.A

namespace Go.Proofs.Ytghfeapncmlihaa.A
open Go.RowKit Go.Proofs.YtghfeapncmlihaaW.PrintWords Go.Proofs.YtghfeapncmlihaaW.PrintLast Go.Proofs.YtghfeapncmlihaaW.PrintMore
attribute [local go_sem] max2_int min2_int max_two min_two max_three min_three max_four min_four   
set_option linter.unusedVariables false
set_option linter.unusedSimpArgs false
def spec_l02Box.l0 : Nat → Int → Int → Int → List Int → List (S71) → Option (Int)
 | 0, _, _, _, _, _ => none
 | k + 1, x1, x5, x293000, x293001, x293002 => if x5 < (x293002.length : Int) then (if 0 ≤ x5 then (if ((rd_T71 x293002 x5).f2) = x1 then (if x1 > 0 then (some x5) else (spec_l02Box.l0 k x1 (wrap64 (x5 + 1)) x293000 x293001 x293002)) else (spec_l02Box.l0 k x1 (wrap64 (x5 + 1)) x293000 x293001 x293002)) else (none)) else (some (-1))
def spec_l02Box.f (k : Nat) (a0_0 : Int) (l0_1 : List Int) (l0_2 : List (S71)) (a1 : Int) : Option (Int) := spec_l02Box.l0 k a1 0 a0_0 l0_1 l0_2
set_option maxHeartbeats 8000000 in
set_option maxRecDepth 100000 in
theorem spec_l02Box.calls (k : Nat) (a0_0 : Int) (A0_1 : Option Addr) (c0_1 : Nat) (l0_1 : List Int) (A0_2 : Option Addr) (c0_2 : Nat) (l0_2 : List (S71)) (a1 : Int) (r : Int) (w : World) (hr0_1 : Kd.C (Kd.int .i64) w A0_1 l0_1.length l0_1) (hc0_1 : l0_1.length ≤ c0_1) (hr0_2 : Kd.C k71 w A0_2 l0_2.length l0_2) (hc0_2 : l0_2.length ≤ c0_2) (h : spec_l02Box.f k a0_0 l0_1 l0_2 a1 = some r) :
  Calls Try.prog 68 #[.agg #[.int .i64 a0_0, .slice A0_1 l0_1.length c0_1, .slice A0_2 l0_2.length c0_2], .int .i64 a1] w fun e w' => e = .returned (.int .i64 r) ∧ Below w.heap.size w w' := by
 have hu30 := Try.underlying30
 have HR0_1 := Aside0.mk hr0_1
 have HC0_1 := Aside0.mk hc0_1
 clear hr0_1 hc0_1
 have HR0_2 := Aside0.mk hr0_2
 have HC0_2 := Aside0.mk hc0_2
 clear hr0_2 hc0_2
 have HB := Aside0.mk (Below.refl w.heap.size w)
 have H : (spec_l02Box.l0 k a1 0 a0_0 l0_1 l0_2) = some r := h
 clear h
 have H' := Aside0.mk H
 clear H
 go_enter Try.func68, Try.ntmps68
 go_wp2_with (first | ((with_reducible refine gate_dst (N := 2) rfl ?_); refine bx (cs := #[.int .i64 a0_0, .slice A0_1 l0_1.length c0_1, .slice A0_2 l0_2.length c0_2]) (t := 30) fun gb292 hg w3 hbox hb => ?_; have BK292 := Aside0.mk (hbox); have GW292 := Aside0.mk (gs HB.out hg); have GE292 := Aside0.mk (gs HB.out hg); replace HB := Aside0.mk (below_step (bl HB.out) hb); clear hb hbox hg))
 go_loopg [5] k (fun kq v5 w' => ∃ (x5_1 : Int), v5 = .int .i64 x5_1 ∧ Aside0 (spec_l02Box.l0 kq a1 x5_1 a0_0 l0_1 l0_2 = some r) ∧ Aside0 (kq ≤ k) ∧ Aside0 (w'.heap[gb292]? = some (.cells #[.int .i64 a0_0, (.slice A0_1 l0_1.length c0_1), (.slice A0_2 l0_2.length c0_2)] 30 (0, 0))) ∧ Aside0 (Below w.heap.size w w'))
 case atStart => exact ⟨(0), (by first | rfl | (simp; done) | (simp [*]; done)), H', ⟨Nat.le_refl _⟩, ⟨by refine bk ?_; exact BK292.out⟩, ⟨bl HB.out⟩⟩
 case round =>
  clear H'
  try clear p2
  obtain ⟨x5_1, rfl, HA, HK1, BK292, HB⟩ := hrel
  cases gk with
  | zero => exact absurd HA.out (by simp [spec_l02Box.l0])
  | succ k1 =>
   have H := HA.out
   clear HA
   simp only [spec_l02Box.l0] at H
   by_cases c4 : x5_1 < (l0_2.length : Int)
   ·rw [if_pos c4] at H
    have c4b0 : decide (x5_1 < (l0_2.length : Int)) = true := decide_eq_true c4
    clear c4
    by_cases c5 : 0 ≤ x5_1
    ·rw [if_pos c5] at H
     have c5b0 : decide (0 ≤ x5_1) = true := decide_eq_true c5
     clear c5
     by_cases c6 : ((rd_T71 l0_2 x5_1).f2) = a1
     ·rw [if_pos c6] at H
      have c6b0 : (((rd_T71 l0_2 x5_1).f2) == a1) = true := beq_iff_eq.mpr c6
      have c6b1 : (((rd_T71 l0_2 x5_1).f2) != a1) = false := bne_eq_false_iff_eq.mpr c6
      clear c6
      by_cases c7 : a1 > 0
      ·rw [if_pos c7] at H
       have c7b0 : decide (0 < a1) = true := decide_eq_true c7
       clear c7
       obtain rfl := Option.some.inj H
       obtain ⟨hcz8_0, hcz8_1, hcz8_2, hfz8_0, hfz8_1, hfz8_2⟩ := cz3 BK292.out
       have p293 : 0 ≤ (x5_1 : Int) := of_decide_eq_true asm
       have q293 : x5_1 < (l0_2.length : Int) := of_decide_eq_true asm
       obtain ⟨ad293, e293, hx293_0, hx293_1, hx293_2, hx293_3⟩ := at_T71 HR0_2.out x5_1 p293 q293
       cases e293
       replace hx293_0 := (HB.out.cell (World.block_lt_of_cell? w _ hx293_0)).trans hx293_0
       replace hx293_1 := (HB.out.cell (World.block_lt_of_cell? w _ hx293_1)).trans hx293_1
       replace hx293_2 := (HB.out.cell (World.block_lt_of_cell? w _ hx293_2)).trans hx293_2
       replace hx293_3 := (HB.out.cell (World.block_lt_of_cell? w _ hx293_3)).trans hx293_3
       replace p293 := eq_true p293
       replace q293 := eq_true q293
       go_wp2
       go_ret
       exact ⟨by first | rfl | (simp [errW_none, errW_some] <;> rfl) | (simp [*, errW_none, errW_some] <;> rfl), bl HB.out⟩
      ·rw [if_neg c7] at H
       have c7b0 : decide (0 < a1) = false := decide_eq_false c7
       clear c7
       have H' := Aside0.mk H
       clear H
       obtain ⟨hcz9_0, hcz9_1, hcz9_2, hfz9_0, hfz9_1, hfz9_2⟩ := cz3 BK292.out
       have p293 : 0 ≤ (x5_1 : Int) := of_decide_eq_true asm
       have q293 : x5_1 < (l0_2.length : Int) := of_decide_eq_true asm
       obtain ⟨ad293, e293, hx293_0, hx293_1, hx293_2, hx293_3⟩ := at_T71 HR0_2.out x5_1 p293 q293
       cases e293
       replace hx293_0 := (HB.out.cell (World.block_lt_of_cell? w _ hx293_0)).trans hx293_0
       replace hx293_1 := (HB.out.cell (World.block_lt_of_cell? w _ hx293_1)).trans hx293_1
       replace hx293_2 := (HB.out.cell (World.block_lt_of_cell? w _ hx293_2)).trans hx293_2
       replace hx293_3 := (HB.out.cell (World.block_lt_of_cell? w _ hx293_3)).trans hx293_3
       replace p293 := eq_true p293
       replace q293 := eq_true q293
       go_wp2
       go_roundg k1
       case measure => have := HK1.out; omega
       case rel => exact ⟨(wrap64 (x5_1 + 1)), (by first | rfl | (simp; done) | (simp [*]; done)), H', ⟨by have := HK1.out; omega⟩, ⟨by refine bk ?_; exact BK292.out⟩, ⟨bl HB.out⟩⟩
     ·rw [if_neg c6] at H
      have c6b0 : (((rd_T71 l0_2 x5_1).f2) == a1) = false := beq_eq_false_iff_ne.mpr c6
      have c6b1 : (((rd_T71 l0_2 x5_1).f2) != a1) = true := bne_iff_ne.mpr c6
      have H' := Aside0.mk H
      clear H
      obtain ⟨hcz10_0, hcz10_1, hcz10_2, hfz10_0, hfz10_1, hfz10_2⟩ := cz3 BK292.out
      have p293 : 0 ≤ (x5_1 : Int) := of_decide_eq_true asm
      have q293 : x5_1 < (l0_2.length : Int) := of_decide_eq_true asm
      obtain ⟨ad293, e293, hx293_0, hx293_1, hx293_2, hx293_3⟩ := at_T71 HR0_2.out x5_1 p293 q293
      cases e293
      replace hx293_0 := (HB.out.cell (World.block_lt_of_cell? w _ hx293_0)).trans hx293_0
      replace hx293_1 := (HB.out.cell (World.block_lt_of_cell? w _ hx293_1)).trans hx293_1
      replace hx293_2 := (HB.out.cell (World.block_lt_of_cell? w _ hx293_2)).trans hx293_2
      replace hx293_3 := (HB.out.cell (World.block_lt_of_cell? w _ hx293_3)).trans hx293_3
      replace p293 := eq_true p293
      replace q293 := eq_true q293
      go_wp2
      go_roundg k1
      case measure => have := HK1.out; omega
      case rel => exact ⟨(wrap64 (x5_1 + 1)), (by first | rfl | (simp; done) | (simp [*]; done)), H', ⟨by have := HK1.out; omega⟩, ⟨by refine bk ?_; exact BK292.out⟩, ⟨bl HB.out⟩⟩
    ·rw [if_neg c5] at H
     exact absurd H (by simp)
   ·rw [if_neg c4] at H
    have c4b0 : decide (x5_1 < (l0_2.length : Int)) = false := decide_eq_false c4
    clear c4
    obtain rfl := Option.some.inj H
    obtain ⟨hcz11_0, hcz11_1, hcz11_2, hfz11_0, hfz11_1, hfz11_2⟩ := cz3 BK292.out
    go_wp2
    go_ret
    exact ⟨by first | rfl | (simp [errW_none, errW_some] <;> rfl) | (simp [*, errW_none, errW_some] <;> rfl), bl HB.out⟩
end Go.Proofs.Ytghfeapncmlihaa.A

namespace Go.Proofs.Ytghfeapncmlihaa.A
open Go.RowKit Go.Proofs.YtghfeapncmlihaaW.PrintWords Go.Proofs.YtghfeapncmlihaaW.PrintLast Go.Proofs.YtghfeapncmlihaaW.PrintMore
attribute [local go_sem] max2_int min2_int max_two min_two max_three min_three max_four min_four   
set_option linter.unusedVariables false
set_option linter.unusedSimpArgs false
def idxP : List S71 → Int → Int → Int
 | [], _, _ => -1
 | b :: bs, p, i => if b.f2 = p then i else idxP bs p (i + 1)
end Go.Proofs.Ytghfeapncmlihaa.A

namespace Go.Proofs.Ytghfeapncmlihaa.A
open Go.RowKit Go.Proofs.YtghfeapncmlihaaW.PrintWords Go.Proofs.YtghfeapncmlihaaW.PrintLast Go.Proofs.YtghfeapncmlihaaW.PrintMore
attribute [local go_sem] max2_int min2_int max_two min_two max_three min_three max_four min_four   
set_option linter.unusedVariables false
set_option linter.unusedSimpArgs false
def spec_TakeOut.f (k : Nat) (a0_0 : Int) (l0_1 : List Int) (l0_2 : List (S71)) (a1 : Int) : Option (Int × List Int × (List (S71)) × Bool) := (spec_l02Copy.f a0_0 l0_1 l0_2).bind fun bt597 => ((spec_l02Box.f k a0_0 l0_1 l0_2 a1).bind fun t605 => ((spec_ColumnOk.f k a0_0 l0_1 l0_2).bind fun t606 => (if t606 = true then (if t605 < 0 then (some (bt597.1, bt597.2.1, bt597.2.2, false)) else (if 0 ≤ t605 then (if t605 < (l0_2.length : Int) then (if (rd_T71 l0_2 t605).f3 = true then (some (bt597.1, bt597.2.1, bt597.2.2, false)) else (if t605 < (bt597.2.2.length : Int) then (some (bt597.1, bt597.2.1, (bt597.2.2.set (t605 : Int).toNat (⟨(rd_T71 bt597.2.2 t605).f0, (rd_T71 bt597.2.2 t605).f1, 0, (rd_T71 bt597.2.2 t605).f3⟩ : S71)), true)) else (none))) else (none)) else (none))) else (some (bt597.1, bt597.2.1, bt597.2.2, false)))))
set_option maxHeartbeats 8000000 in
set_option maxRecDepth 100000 in
theorem spec_TakeOut.calls (k : Nat) (a0_0 : Int) (A0_1 : Option Addr) (c0_1 : Nat) (l0_1 : List Int) (A0_2 : Option Addr) (c0_2 : Nat) (l0_2 : List (S71)) (a1 : Int) (r1 : Int) (r2 : List Int) (r3 : List (S71)) (r4 : Bool) (w : World) (hr0_1 : Kd.C (Kd.int .i64) w A0_1 l0_1.length l0_1) (hc0_1 : l0_1.length ≤ c0_1) (hr0_2 : Kd.C k71 w A0_2 l0_2.length l0_2) (hc0_2 : l0_2.length ≤ c0_2) (h : spec_TakeOut.f k a0_0 l0_1 l0_2 a1 = some (r1, r2, r3, r4)) :
  Calls Try.prog 39 #[.agg #[.int .i64 a0_0, .slice A0_1 l0_1.length c0_1, .slice A0_2 l0_2.length c0_2], .int .i64 a1] w fun e w' => ∃ v1_ v2_ : Value, e = .returned (.tuple #[.agg #[.int .i64 r1, v1_, v2_], .bool r4]) ∧ Kd.R (Kd.int .i64) 3 w' w.heap.size (fun _ => True) v1_ r2 ∧ Kd.R k71 71 w' w.heap.size (fun _ => True) v2_ r3 ∧ Below w.heap.size w w' := by
 have hu30 := Try.underlying30
 have HR0_1 := Aside0.mk hr0_1
 have HC0_1 := Aside0.mk hc0_1
 clear hr0_1 hc0_1
 have HR0_2 := Aside0.mk hr0_2
 have HC0_2 := Aside0.mk hc0_2
 clear hr0_2 hc0_2
 have HB := Aside0.mk (Below.refl w.heap.size w)
 have H : ((spec_l02Copy.f a0_0 l0_1 l0_2).bind fun bt597 => ((spec_l02Box.f k a0_0 l0_1 l0_2 a1).bind fun t605 => ((spec_ColumnOk.f k a0_0 l0_1 l0_2).bind fun t606 => (if t606 = true then (if t605 < 0 then (some (bt597.1, bt597.2.1, bt597.2.2, false)) else (if 0 ≤ t605 then (if t605 < (l0_2.length : Int) then (if (rd_T71 l0_2 t605).f3 = true then (some (bt597.1, bt597.2.1, bt597.2.2, false)) else (if t605 < (bt597.2.2.length : Int) then (some (bt597.1, bt597.2.1, (bt597.2.2.set (t605 : Int).toNat (⟨(rd_T71 bt597.2.2 t605).f0, (rd_T71 bt597.2.2 t605).f1, 0, (rd_T71 bt597.2.2 t605).f3⟩ : S71)), true)) else (none))) else (none)) else (none))) else (some (bt597.1, bt597.2.1, bt597.2.2, false)))))) = some (r1, r2, r3, r4) := h
 clear h
 replace H := Option.bind_eq_some_iff.mp H
 obtain ⟨⟨t597, t598, t601⟩, A30, H⟩ := H
 try dsimp only at H
 have A3 := Aside0.mk A30
 clear A30
 replace H := Option.bind_eq_some_iff.mp H
 obtain ⟨t605, A40, H⟩ := H
 try dsimp only at H
 have A4 := Aside0.mk A40
 clear A40
 replace H := Option.bind_eq_some_iff.mp H
 obtain ⟨t606, A50, H⟩ := H
 try dsimp only at H
 have A5 := Aside0.mk A50
 clear A50
 by_cases c6 : t606 = true
 focus
  subst c6
  rw [if_pos rfl] at H
  by_cases c7 : t605 < 0
  focus
   rw [if_pos c7] at H
   have c7b0 : decide (t605 < 0) = true := decide_eq_true c7
   clear c7
   simp only [Option.some.injEq, Prod.mk.injEq] at H
   obtain ⟨rfl, rfl, rfl, rfl⟩ := H
  rotate_left
  focus
   rw [if_neg c7] at H
   have c7b0 : decide (t605 < 0) = false := decide_eq_false c7
   clear c7
   by_cases c25 : 0 ≤ t605
   focus
    rw [if_pos c25] at H
    have c25b0 : decide (0 ≤ t605) = true := decide_eq_true c25
    clear c25
    by_cases c26 : t605 < (l0_2.length : Int)
    focus
     rw [if_pos c26] at H
     have c26b0 : decide (t605 < (l0_2.length : Int)) = true := decide_eq_true c26
     clear c26
     obtain ⟨bq27, hbq27⟩ : ∃ b_ : Bool, b_ = ((rd_T71 l0_2 t605).f3) := ⟨_, rfl⟩
     replace H : (if bq27 = true then (some (t597, t598, t601, false)) else (if t605 < (t601.length : Int) then (some (t597, t598, (t601.set (t605 : Int).toNat (⟨(rd_T71 t601 t605).f0, (rd_T71 t601 t605).f1, 0, (rd_T71 t601 t605).f3⟩ : S71)), true)) else (none))) = some (r1, r2, r3, r4) := by rw [← hbq27] at H; exact H
     have Nbq27 := Aside0.mk hbq27
     clear hbq27
     by_cases c28 : bq27 = true
     focus
      subst c28
      rw [if_pos rfl] at H
      simp only [Option.some.injEq, Prod.mk.injEq] at H
      obtain ⟨rfl, rfl, rfl, rfl⟩ := H
     rotate_left
     focus
      replace c28 := Bool.eq_false_iff.mpr c28
      subst c28
      rw [if_neg (show ¬ (false = true) by decide)] at H
      by_cases c47 : t605 < (t601.length : Int)
      focus
       rw [if_pos c47] at H
       have c47b0 : decide (t605 < (t601.length : Int)) = true := decide_eq_true c47
       clear c47
       obtain ⟨y608, hy608⟩ : ∃ y_ : List (S71), y_ = (t601.set (t605 : Int).toNat (⟨(rd_T71 t601 t605).f0, (rd_T71 t601 t605).f1, 0, (rd_T71 t601 t605).f3⟩ : S71)) := ⟨_, rfl⟩
       replace H : (some (t597, t598, y608, true)) = some (r1, r2, r3, r4) := by first | (rw [hy608]; with_reducible exact H) | (have H2_ := (Option.bind_some _ _).symm.trans H; rw [hy608]; with_reducible exact H2_) | (have H2_ := (Option.bind_some _ _).symm.trans H; with_reducible exact H2_) | with_reducible exact H | (rw [hy608]; exact H) | exact H
       have Ny608 := Aside0.mk hy608
       clear hy608
       simp only [Option.some.injEq, Prod.mk.injEq] at H
       obtain ⟨rfl, rfl, rfl, rfl⟩ := H
      rotate_left
      ·rw [if_neg c47] at H
       exact absurd H (by simp)
     rotate_left
    rotate_left 2
    ·rw [if_neg c26] at H
     exact absurd H (by simp)
   rotate_left 2
   ·rw [if_neg c25] at H
    exact absurd H (by simp)
  rotate_left 2
 rotate_left 3
 focus
  replace c6 := Bool.eq_false_iff.mpr c6
  subst c6
  rw [if_neg (show ¬ (false = true) by decide)] at H
  simp only [Option.some.injEq, Prod.mk.injEq] at H
  obtain ⟨rfl, rfl, rfl, rfl⟩ := H
 rotate_left
 all_goals go_enter Try.func39, Try.ntmps39
 all_goals go_wp2_with (first | ((with_reducible refine gate_dst (N := 2) rfl ?_); refine bx (cs := #[.int .i64 a0_0, .slice A0_1 l0_1.length c0_1, .slice A0_2 l0_2.length c0_2]) (t := 30) fun gb595 hg w8 hbox hb => ?_; have BK595 := Aside0.mk (hbox); have GW595 := Aside0.mk (gs HB.out hg); have GE595 := Aside0.mk (gs HB.out hg); replace HB := Aside0.mk (below_step (bl HB.out) hb); clear hb hbox hg) | ((with_reducible refine gate_dst (N := 4) rfl ?_); refine bx (cs := #[.int .i64 0, .slice none 0 0, .slice none 0 0]) (t := 30) fun gb596 hg w9 hbox hb => ?_; have BK596 := Aside0.mk (hbox); have GW596 := Aside0.mk (gs HB.out hg); have GE596 := Aside0.mk (gs HB.out hg); replace HB := Aside0.mk (below_step (bl HB.out) hb); have NB595_596 := Aside0.mk ((nl BK595.out hg)); have NB596_595 := Aside0.mk ((ng BK595.out hg)); replace BK595 := Aside0.mk (bb BK595.out hb); clear hb hbox hg; have hnb10 := NB595_596.out; have hnc10 := NB596_595.out; obtain ⟨hcz11_0, hcz11_1, hcz11_2, hfz11_0, hfz11_1, hfz11_2⟩ := cz3 BK595.out) | ((with_reducible refine gate_callee (f := 71) rfl ?_); refine goesL_ (some 9) rfl rfl Try.func71 (by kernel_rfl) rfl #[.agg #[.int .i64 a0_0, .slice A0_1 l0_1.length c0_1, .slice A0_2 l0_2.length c0_2]] rfl mapd ?_; (with_reducible refine (spec_l02Copy.calls a0_0 _ _ l0_1 _ _ l0_2 t597 t598 t601 _ ?side1 ?side2 ?side3 ?side4 A3.out).mono ?_); (case side1 => exact cb (Kd.C_below HR0_1.out HB.out)); (case side2 => exact HC0_1.out); (case side3 => exact cb (Kd.C_below HR0_2.out HB.out)); (case side4 => exact HC0_2.out); rintro e w12 ⟨v599, v602, rfl, ho0, ho1, hb⟩; refine ⟨_, rfl, ?_⟩; have HO600 := Aside0.mk (Kd.R_lower ho0 (below_size (bl HB.out))); have HO603 := Aside0.mk (Kd.R_lower ho1 (below_size (bl HB.out))); replace BK595 := Aside0.mk (bb BK595.out hb); replace BK596 := Aside0.mk (bb BK596.out hb); replace HB := Aside0.mk (below_step (bl HB.out) hb); (try clear hb); (try clear hb2); (try clear hk); (try clear hi); (try clear ho0); (try clear ho1)) | ((with_reducible refine gate_dst (N := 6) rfl ?_); refine bx (cs := #[.int .i64 0, .slice none 0 0, .slice none 0 0]) (t := 30) fun gb604 hg w13 hbox hb => ?_; replace HO600 := Aside0.mk (Kd.R_below (rk HO600.out) hb); replace HO603 := Aside0.mk (Kd.R_below (rk HO603.out) hb); have BK604 := Aside0.mk (hbox); have GW604 := Aside0.mk (gs HB.out hg); have GE604 := Aside0.mk (gs HB.out hg); replace HB := Aside0.mk (below_step (bl HB.out) hb); have NB595_604 := Aside0.mk ((nl BK595.out hg)); have NB604_595 := Aside0.mk ((ng BK595.out hg)); replace BK595 := Aside0.mk (bb BK595.out hb); have NB596_604 := Aside0.mk ((nl BK596.out hg)); have NB604_596 := Aside0.mk ((ng BK596.out hg)); replace BK596 := Aside0.mk (bb BK596.out hb); clear hb hbox hg; have hnb14 := NB604_595.out; have hnc14 := NB595_604.out; have hnb15 := NB604_596.out; have hnc15 := NB596_604.out; obtain ⟨hcz16_0, hcz16_1, hcz16_2, hfz16_0, hfz16_1, hfz16_2⟩ := cz3 BK604.out; obtain ⟨Ao17, co17, eo17⟩ := Kd.R_slice HO600.out; subst eo17; obtain ⟨Ao18, co18, eo18⟩ := Kd.R_slice HO603.out; subst eo18; obtain ⟨hcz19_0, hcz19_1, hcz19_2, hfz19_0, hfz19_1, hfz19_2⟩ := cz3 BK595.out) | ((with_reducible refine gate_callee (f := 68) rfl ?_); refine goesL_ (some 12) rfl rfl Try.func68 (by kernel_rfl) rfl #[.agg #[.int .i64 a0_0, .slice A0_1 l0_1.length c0_1, .slice A0_2 l0_2.length c0_2], .int .i64 a1] rfl mapd ?_; (with_reducible refine (spec_l02Box.calls k a0_0 _ _ l0_1 _ _ l0_2 a1 t605 _ ?side1 ?side2 ?side3 ?side4 A4.out).mono ?_); (case side1 => exact Kd.C_below HR0_1.out (bl HB.out)); (case side2 => exact HC0_1.out); (case side3 => exact Kd.C_below HR0_2.out (bl HB.out)); (case side4 => exact HC0_2.out); rintro e w20 ⟨rfl, hb⟩; refine ⟨_, rfl, ?_⟩; replace HO600 := Aside0.mk (Kd.R_below (by refine rk ?_; exact (Kd.R_mono (Kd.R_far (p := ⟨gb604, 2, none⟩) (Kd.R_far (p := ⟨gb604, 1, none⟩) (Kd.R_far (p := ⟨gb604, 0, none⟩) (Kd.R_types HO600.out BK604.out (by decide)) (fun _ hk => hk.2) (.int .i64 t597)) (fun _ hk => hk.2) (.slice Ao17 t598.length co17)) (fun _ hk => hk.2) (.slice Ao18 t601.length co18)) (fun _ h_ => h_.1))) hb); replace HO603 := Aside0.mk (Kd.R_below (by refine rk ?_; exact (Kd.R_mono (Kd.R_far (p := ⟨gb604, 2, none⟩) (Kd.R_far (p := ⟨gb604, 1, none⟩) (Kd.R_far (p := ⟨gb604, 0, none⟩) (Kd.R_types HO603.out BK604.out (by decide)) (fun _ hk => hk.2) (.int .i64 t597)) (fun _ hk => hk.2) (.slice Ao17 t598.length co17)) (fun _ hk => hk.2) (.slice Ao18 t601.length co18)) (fun _ h_ => h_.1))) hb); replace BK595 := Aside0.mk (blk_below (g := gb595) (o := .cells #[.int .i64 a0_0, .slice A0_1 l0_1.length c0_1, .slice A0_2 l0_2.length c0_2] 30 (0, 0)) (bf BK595.out) hb); replace BK596 := Aside0.mk (blk_below (g := gb596) (o := .cells #[.int .i64 0, .slice none 0 0, .slice none 0 0] 30 (0, 0)) (bf BK596.out) hb); replace BK604 := Aside0.mk (blk_below (g := gb604) (o := .cells #[.int .i64 t597, .slice Ao17 t598.length co17, .slice Ao18 t601.length co18] 30 (0, 0)) (by refine bk ?_; refine blk_put (cs := #[.int .i64 t597, .slice Ao17 t598.length co17, .slice none 0 0]) ?_ 2 _ rfl; refine bk ?_; refine blk_put (cs := #[.int .i64 t597, .slice none 0 0, .slice none 0 0]) ?_ 1 _ rfl; refine bk ?_; refine blk_put (cs := #[.int .i64 0, .slice none 0 0, .slice none 0 0]) ?_ 0 _ rfl; refine bk ?_; exact BK604.out) hb); replace HB := Aside0.mk (below_step (bl HB.out) hb); (try clear hb); (try clear hb2); (try clear hk); (try clear hi); obtain ⟨hcz21_0, hcz21_1, hcz21_2, hfz21_0, hfz21_1, hfz21_2⟩ := cz3 BK595.out) | ((with_reducible refine gate_callee (f := 16) rfl ?_); refine goesL_ (some 14) rfl rfl Try.func16 (by kernel_rfl) rfl #[.agg #[.int .i64 a0_0, .slice A0_1 l0_1.length c0_1, .slice A0_2 l0_2.length c0_2]] rfl mapd ?_; (with_reducible refine (spec_ColumnOk.calls k a0_0 _ _ l0_1 _ _ l0_2 false _ ?side1 ?side2 ?side3 ?side4 A5.out).mono ?_); (case side1 => exact cb (Kd.C_below HR0_1.out HB.out)); (case side2 => exact HC0_1.out); (case side3 => exact cb (Kd.C_below HR0_2.out HB.out)); (case side4 => exact HC0_2.out); rintro e w84 ⟨rfl, hb⟩; refine ⟨_, rfl, ?_⟩; replace HO600 := Aside0.mk (Kd.R_below (rk HO600.out) hb); replace HO603 := Aside0.mk (Kd.R_below (rk HO603.out) hb); replace BK595 := Aside0.mk (bb BK595.out hb); replace BK596 := Aside0.mk (bb BK596.out hb); replace BK604 := Aside0.mk (bb BK604.out hb); replace HB := Aside0.mk (below_step (bl HB.out) hb); (try clear hb); (try clear hb2); (try clear hk); (try clear hi); obtain ⟨hcz85_0, hcz85_1, hcz85_2, hfz85_0, hfz85_1, hfz85_2⟩ := cz3 BK604.out; obtain ⟨hcz86_0, hcz86_1, hcz86_2, hfz86_0, hfz86_1, hfz86_2⟩ := cz3 BK596.out) | ((with_reducible refine gate_callee (f := 16) rfl ?_); refine goesL_ (some 14) rfl rfl Try.func16 (by kernel_rfl) rfl #[.agg #[.int .i64 a0_0, .slice A0_1 l0_1.length c0_1, .slice A0_2 l0_2.length c0_2]] rfl mapd ?_; (with_reducible refine (spec_ColumnOk.calls k a0_0 _ _ l0_1 _ _ l0_2 true _ ?side1 ?side2 ?side3 ?side4 A5.out).mono ?_); (case side1 => exact cb (Kd.C_below HR0_1.out HB.out)); (case side2 => exact HC0_1.out); (case side3 => exact cb (Kd.C_below HR0_2.out HB.out)); (case side4 => exact HC0_2.out); rintro e w63 ⟨rfl, hb⟩; refine ⟨_, rfl, ?_⟩; replace HO600 := Aside0.mk (Kd.R_below (rk HO600.out) hb); replace HO603 := Aside0.mk (Kd.R_below (rk HO603.out) hb); replace BK595 := Aside0.mk (bb BK595.out hb); replace BK596 := Aside0.mk (bb BK596.out hb); replace BK604 := Aside0.mk (bb BK604.out hb); replace HB := Aside0.mk (below_step (bl HB.out) hb); (try clear hb); (try clear hb2); (try clear hk); (try clear hi); obtain ⟨hcz64_0, hcz64_1, hcz64_2, hfz64_0, hfz64_1, hfz64_2⟩ := cz3 BK595.out; have p607 : 0 ≤ (t605 : Int) := of_decide_eq_true asm; have q607 : t605 < (l0_2.length : Int) := of_decide_eq_true asm; obtain ⟨ad607, e607, hx607_0, hx607_1, hx607_2, hx607_3⟩ := at_T71 HR0_2.out t605 p607 q607; (try rw [← Nbq27.out] at hx607_3); cases e607; replace hx607_0 := (HB.out.cell (World.block_lt_of_cell? w _ hx607_0)).trans hx607_0; replace hx607_1 := (HB.out.cell (World.block_lt_of_cell? w _ hx607_1)).trans hx607_1; replace hx607_2 := (HB.out.cell (World.block_lt_of_cell? w _ hx607_2)).trans hx607_2; replace hx607_3 := (HB.out.cell (World.block_lt_of_cell? w _ hx607_3)).trans hx607_3; replace p607 := eq_true p607; replace q607 := eq_true q607; obtain ⟨hcz65_0, hcz65_1, hcz65_2, hfz65_0, hfz65_1, hfz65_2⟩ := cz3 BK604.out; have p48 : 0 ≤ (t605 : Int) := of_decide_eq_true asm; have q48 : (t605 : Int) < ((t601.length : Int) : Int) := of_decide_eq_true asm; obtain ⟨go48, co48, eo48, gb48, gl48, cl48, HG48⟩ := Kd.R_form HO603.out (by omega); (first | cases eo48 | (injection eo48 with ea_ en_ ec_; (first | subst ea_ | (injection ea_ with ea_; subst ea_)); subst ec_; clear en_)); have GB48 := Aside0.mk gb48; have GG48 := Aside0.mk HG48; clear gb48 gl48 HG48; obtain ⟨ce48, hcl48, hM48, hcc48, hfr48⟩ := Kd.R_elem HO603.out z71 (t605 : Int) p48 q48; obtain rfl := k71_openM hM48; have hx48_0 : w63.cell? ⟨go48, (t605 : Int).toNat * 4, none⟩ = some (.int .i64 ((rd_T71 t601 t605).f0)) := hcc48 0 _ rfl; have hx48_1 : w63.cell? ⟨go48, (t605 : Int).toNat * 4 + 1, none⟩ = some (.int .i64 ((rd_T71 t601 t605).f1)) := hcc48 1 _ rfl; have hx48_2 : w63.cell? ⟨go48, (t605 : Int).toNat * 4 + 2, none⟩ = some (.int .i64 ((rd_T71 t601 t605).f2)) := hcc48 2 _ rfl; have hx48_3 : w63.cell? ⟨go48, (t605 : Int).toNat * 4 + 3, none⟩ = some (.bool ((rd_T71 t601 t605).f3)) := hcc48 3 _ rfl; have hf48_0 : w63.frozen? ⟨go48, (t605 : Int).toNat * 4, none⟩ = false := hfr48 0; have hf48_1 : w63.frozen? ⟨go48, (t605 : Int).toNat * 4 + 1, none⟩ = false := hfr48 1; have hf48_2 : w63.frozen? ⟨go48, (t605 : Int).toNat * 4 + 2, none⟩ = false := hfr48 2; have hf48_3 : w63.frozen? ⟨go48, (t605 : Int).toNat * 4 + 3, none⟩ = false := hfr48 3; clear hcl48 hcc48 hfr48 hM48; replace p48 := eq_true p48; replace q48 := eq_true q48; have HX66 := Aside0.mk (show Kd.R k71 71 w63 w.heap.size (fun _ => True) (.slice (some ⟨go48, 0, none⟩) t601.length co18) t601 from (rk HO603.out)); obtain ⟨ce66, hcl66, hM66, hcc66, hfr66⟩ := Kd.R_elem HX66.out z71 (t605 : Int) (of_decide_eq_true asm) (by have h_ : (t605 : Int) < ((t601.length : Int) : Int) := of_decide_eq_true asm; first | exact h_ | (have e_ := (Kd.R_reads' HO603.out).1; omega) | simpa using h_); obtain rfl := k71_openM hM66; have HP66 := Kd.R_seg HX66.out (t605 : Int) (of_decide_eq_true asm) (by have h_ : (t605 : Int) < ((t601.length : Int) : Int) := of_decide_eq_true asm; first | exact h_ | (have e_ := (Kd.R_reads' HO603.out).1; omega) | simpa using h_) (seg := [.int .i64 0]) (j := 2) hcl66 hcc66 (show 3 ≤ 4 from by decide) (x' := (⟨(rd_T71 t601 t605).f0, (rd_T71 t601 t605).f1, 0, (rd_T71 t601 t605).f3⟩ : S71)) (k71_mkM _ _ _ (⟨(rd_T71 t601 t605).f0, (rd_T71 t601 t605).f1, 0, (rd_T71 t601 t605).f3⟩ : S71) ) (fun _ hk => hk); have hx66_2 := hcc66 2 _ rfl; (try simp only [show (k71).sz = 4 from rfl, Nat.mul_one, Nat.add_zero] at hx66_2); have hf66_2 := hfr66 2; (try simp only [show (k71).sz = 4 from rfl, Nat.mul_one, Nat.add_zero] at hf66_2); clear hcl66 hcc66 hfr66 hM66) | ((with_reducible refine gate_store (t := 3) (p := 33) rfl ?_); refine store_event (t := 3) (p := 33) (v := ?vo_w67) (w1 := (w63.setCell ⟨go48, (t605 : Int).toNat * 4 + 2, none⟩ (.int .i64 0))) ?hg ?ho ?hn ?hr ?_; (case ho => rfl); (case hg => rfl); (case hn => rfl); (case hr => first | (go_simp; done) | (go_simp; rfl)); intro w67 hw; have hg : w63.grownBy w67 (some go48) := (by rw [hw]; exact HP66.2); have hp_ : Kd.R k71 71 w67 w.heap.size (fun _ => True) (.slice (some ⟨go48, 0, none⟩) t601.length co18) y608 := (by rw [hw, Ny608.out]; exact HP66.1); clear HP66; replace BK595 := Aside0.mk (blk_grown (g := gb595) (o := .cells #[.int .i64 a0_0, .slice A0_1 l0_1.length c0_1, .slice (some ad607) l0_2.length c0_2] 30 (0, 0)) (bk BK595.out) hg (Kd.R_ne HO603.out BK595.out (by decide))); replace BK596 := Aside0.mk (blk_grown (g := gb596) (o := .cells #[.int .i64 0, .slice none 0 0, .slice none 0 0] 30 (0, 0)) (bk BK596.out) hg (Kd.R_ne HO603.out BK596.out (by decide))); replace HO600 := Aside0.mk (Kd.R_over' (v := (.slice (some ⟨go48, 0, none⟩) t601.length co18)) (rk HO600.out) (Kd.R_typed HO603.out) (by decide) hg); replace BK604 := Aside0.mk (blk_grown (g := gb604) (o := .cells #[.int .i64 t597, .slice Ao17 t598.length co17, .slice (some ⟨go48, 0, none⟩) t601.length co18] 30 (0, 0)) (bk BK604.out) hg (Kd.R_ne HO603.out BK604.out (by decide))); replace HO603 := Aside0.mk (hp_); replace HB := Aside0.mk ((by rw [hw]; exact below_set (HB.out) GB48.out : Below w.heap.size w w67)); clear hg hw hp_; obtain ⟨hcz68_0, hcz68_1, hcz68_2, hfz68_0, hfz68_1, hfz68_2⟩ := cz3 BK604.out; obtain ⟨hcz69_0, hcz69_1, hcz69_2, hfz69_0, hfz69_1, hfz69_2⟩ := cz3 BK596.out) | ((with_reducible refine gate_callee (f := 16) rfl ?_); refine goesL_ (some 14) rfl rfl Try.func16 (by kernel_rfl) rfl #[.agg #[.int .i64 a0_0, .slice A0_1 l0_1.length c0_1, .slice A0_2 l0_2.length c0_2]] rfl mapd ?_; (with_reducible refine (spec_ColumnOk.calls k a0_0 _ _ l0_1 _ _ l0_2 true _ ?side1 ?side2 ?side3 ?side4 A5.out).mono ?_); (case side1 => exact cb (Kd.C_below HR0_1.out HB.out)); (case side2 => exact HC0_1.out); (case side3 => exact cb (Kd.C_below HR0_2.out HB.out)); (case side4 => exact HC0_2.out); rintro e w43 ⟨rfl, hb⟩; refine ⟨_, rfl, ?_⟩; replace HO600 := Aside0.mk (Kd.R_below (rk HO600.out) hb); replace HO603 := Aside0.mk (Kd.R_below (rk HO603.out) hb); replace BK595 := Aside0.mk (bb BK595.out hb); replace BK596 := Aside0.mk (bb BK596.out hb); replace BK604 := Aside0.mk (bb BK604.out hb); replace HB := Aside0.mk (below_step (bl HB.out) hb); (try clear hb); (try clear hb2); (try clear hk); (try clear hi); obtain ⟨hcz44_0, hcz44_1, hcz44_2, hfz44_0, hfz44_1, hfz44_2⟩ := cz3 BK595.out; have p607 : 0 ≤ (t605 : Int) := of_decide_eq_true asm; have q607 : t605 < (l0_2.length : Int) := of_decide_eq_true asm; obtain ⟨ad607, e607, hx607_0, hx607_1, hx607_2, hx607_3⟩ := at_T71 HR0_2.out t605 p607 q607; (try rw [← Nbq27.out] at hx607_3); cases e607; replace hx607_0 := (HB.out.cell (World.block_lt_of_cell? w _ hx607_0)).trans hx607_0; replace hx607_1 := (HB.out.cell (World.block_lt_of_cell? w _ hx607_1)).trans hx607_1; replace hx607_2 := (HB.out.cell (World.block_lt_of_cell? w _ hx607_2)).trans hx607_2; replace hx607_3 := (HB.out.cell (World.block_lt_of_cell? w _ hx607_3)).trans hx607_3; replace p607 := eq_true p607; replace q607 := eq_true q607; obtain ⟨hcz45_0, hcz45_1, hcz45_2, hfz45_0, hfz45_1, hfz45_2⟩ := cz3 BK604.out; obtain ⟨hcz46_0, hcz46_1, hcz46_2, hfz46_0, hfz46_1, hfz46_2⟩ := cz3 BK596.out) | ((with_reducible refine gate_callee (f := 16) rfl ?_); refine goesL_ (some 14) rfl rfl Try.func16 (by kernel_rfl) rfl #[.agg #[.int .i64 a0_0, .slice A0_1 l0_1.length c0_1, .slice A0_2 l0_2.length c0_2]] rfl mapd ?_; (with_reducible refine (spec_ColumnOk.calls k a0_0 _ _ l0_1 _ _ l0_2 true _ ?side1 ?side2 ?side3 ?side4 A5.out).mono ?_); (case side1 => exact cb (Kd.C_below HR0_1.out HB.out)); (case side2 => exact HC0_1.out); (case side3 => exact cb (Kd.C_below HR0_2.out HB.out)); (case side4 => exact HC0_2.out); rintro e w22 ⟨rfl, hb⟩; refine ⟨_, rfl, ?_⟩; replace HO600 := Aside0.mk (Kd.R_below (rk HO600.out) hb); replace HO603 := Aside0.mk (Kd.R_below (rk HO603.out) hb); replace BK595 := Aside0.mk (bb BK595.out hb); replace BK596 := Aside0.mk (bb BK596.out hb); replace BK604 := Aside0.mk (bb BK604.out hb); replace HB := Aside0.mk (below_step (bl HB.out) hb); (try clear hb); (try clear hb2); (try clear hk); (try clear hi); obtain ⟨hcz23_0, hcz23_1, hcz23_2, hfz23_0, hfz23_1, hfz23_2⟩ := cz3 BK604.out; obtain ⟨hcz24_0, hcz24_1, hcz24_2, hfz24_0, hfz24_1, hfz24_2⟩ := cz3 BK596.out))
 ·refine bodyPost_ret (results_ct rfl _ _ gb596 30 #[.int .i64 t597, .slice Ao17 t598.length co17, .slice Ao18 t601.length co18] (0, 0) _ rfl (by refine bk ?_; refine blk_put (cs := #[.int .i64 t597, .slice Ao17 t598.length co17, .slice none 0 0]) ?_ 2 _ rfl; refine bk ?_; refine blk_put (cs := #[.int .i64 t597, .slice none 0 0, .slice none 0 0]) ?_ 1 _ rfl; refine bk ?_; refine blk_put (cs := #[.int .i64 0, .slice none 0 0, .slice none 0 0]) ?_ 0 _ rfl; refine bk ?_; exact BK596.out) Try.underlying30 rfl (by kernel_rfl)) rfl ?_
  exact ⟨_, _, by first | rfl | (simp [errW_none, errW_some] <;> rfl) | (simp [*, errW_none, errW_some] <;> rfl), by refine rk ?_; exact Kd.R_mono (Kd.R_far (p := ⟨gb596, 2, none⟩) (Kd.R_far (p := ⟨gb596, 1, none⟩) (Kd.R_far (p := ⟨gb596, 0, none⟩) (Kd.R_types HO600.out BK596.out (by decide)) (fun _ hk => hk.2) (.int .i64 t597)) (fun _ hk => hk.2) (.slice Ao17 t598.length co17)) (fun _ hk => hk.2) (.slice Ao18 t601.length co18)) (fun _ hk => trivial), by refine rk ?_; exact Kd.R_mono (Kd.R_far (p := ⟨gb596, 2, none⟩) (Kd.R_far (p := ⟨gb596, 1, none⟩) (Kd.R_far (p := ⟨gb596, 0, none⟩) (Kd.R_types HO603.out BK596.out (by decide)) (fun _ hk => hk.2) (.int .i64 t597)) (fun _ hk => hk.2) (.slice Ao17 t598.length co17)) (fun _ hk => hk.2) (.slice Ao18 t601.length co18)) (fun _ hk => trivial), bl HB.out⟩
 ·refine bodyPost_ret (results_ct rfl _ _ gb596 30 #[.int .i64 t597, .slice Ao17 t598.length co17, .slice Ao18 t601.length co18] (0, 0) _ rfl (by refine bk ?_; refine blk_put (cs := #[.int .i64 t597, .slice Ao17 t598.length co17, .slice none 0 0]) ?_ 2 _ rfl; refine bk ?_; refine blk_put (cs := #[.int .i64 t597, .slice none 0 0, .slice none 0 0]) ?_ 1 _ rfl; refine bk ?_; refine blk_put (cs := #[.int .i64 0, .slice none 0 0, .slice none 0 0]) ?_ 0 _ rfl; refine bk ?_; exact BK596.out) Try.underlying30 rfl (by kernel_rfl)) rfl ?_
  exact ⟨_, _, by first | rfl | (simp [errW_none, errW_some] <;> rfl) | (simp [*, errW_none, errW_some] <;> rfl), by refine rk ?_; exact Kd.R_mono (Kd.R_far (p := ⟨gb596, 2, none⟩) (Kd.R_far (p := ⟨gb596, 1, none⟩) (Kd.R_far (p := ⟨gb596, 0, none⟩) (Kd.R_types HO600.out BK596.out (by decide)) (fun _ hk => hk.2) (.int .i64 t597)) (fun _ hk => hk.2) (.slice Ao17 t598.length co17)) (fun _ hk => hk.2) (.slice Ao18 t601.length co18)) (fun _ hk => trivial), by refine rk ?_; exact Kd.R_mono (Kd.R_far (p := ⟨gb596, 2, none⟩) (Kd.R_far (p := ⟨gb596, 1, none⟩) (Kd.R_far (p := ⟨gb596, 0, none⟩) (Kd.R_types HO603.out BK596.out (by decide)) (fun _ hk => hk.2) (.int .i64 t597)) (fun _ hk => hk.2) (.slice Ao17 t598.length co17)) (fun _ hk => hk.2) (.slice Ao18 t601.length co18)) (fun _ hk => trivial), bl HB.out⟩
 ·refine bodyPost_ret (results_ct rfl _ _ gb596 30 #[.int .i64 t597, .slice Ao17 t598.length co17, .slice (some ⟨go48, 0, none⟩) t601.length co18] (0, 0) _ rfl (by refine bk ?_; refine blk_put (cs := #[.int .i64 t597, .slice Ao17 t598.length co17, .slice none 0 0]) ?_ 2 _ rfl; refine bk ?_; refine blk_put (cs := #[.int .i64 t597, .slice none 0 0, .slice none 0 0]) ?_ 1 _ rfl; refine bk ?_; refine blk_put (cs := #[.int .i64 0, .slice none 0 0, .slice none 0 0]) ?_ 0 _ rfl; refine bk ?_; exact BK596.out) Try.underlying30 rfl (by kernel_rfl)) rfl ?_
  exact ⟨_, _, by first | rfl | (simp [errW_none, errW_some] <;> rfl) | (simp [*, errW_none, errW_some] <;> rfl), by refine rk ?_; exact Kd.R_mono (Kd.R_far (p := ⟨gb596, 2, none⟩) (Kd.R_far (p := ⟨gb596, 1, none⟩) (Kd.R_far (p := ⟨gb596, 0, none⟩) (Kd.R_types HO600.out BK596.out (by decide)) (fun _ hk => hk.2) (.int .i64 t597)) (fun _ hk => hk.2) (.slice Ao17 t598.length co17)) (fun _ hk => hk.2) (.slice (some ⟨go48, 0, none⟩) t601.length co18)) (fun _ hk => trivial), by refine rk ?_; exact Kd.R_mono (Kd.R_far (p := ⟨gb596, 2, none⟩) (Kd.R_far (p := ⟨gb596, 1, none⟩) (Kd.R_far (p := ⟨gb596, 0, none⟩) (Kd.R_types HO603.out BK596.out (by decide)) (fun _ hk => hk.2) (.int .i64 t597)) (fun _ hk => hk.2) (.slice Ao17 t598.length co17)) (fun _ hk => hk.2) (.slice (some ⟨go48, 0, none⟩) t601.length co18)) (fun _ hk => trivial), bl HB.out⟩
 ·refine bodyPost_ret (results_ct rfl _ _ gb596 30 #[.int .i64 t597, .slice Ao17 t598.length co17, .slice Ao18 t601.length co18] (0, 0) _ rfl (by refine bk ?_; refine blk_put (cs := #[.int .i64 t597, .slice Ao17 t598.length co17, .slice none 0 0]) ?_ 2 _ rfl; refine bk ?_; refine blk_put (cs := #[.int .i64 t597, .slice none 0 0, .slice none 0 0]) ?_ 1 _ rfl; refine bk ?_; refine blk_put (cs := #[.int .i64 0, .slice none 0 0, .slice none 0 0]) ?_ 0 _ rfl; refine bk ?_; exact BK596.out) Try.underlying30 rfl (by kernel_rfl)) rfl ?_
  exact ⟨_, _, by first | rfl | (simp [errW_none, errW_some] <;> rfl) | (simp [*, errW_none, errW_some] <;> rfl), by refine rk ?_; exact Kd.R_mono (Kd.R_far (p := ⟨gb596, 2, none⟩) (Kd.R_far (p := ⟨gb596, 1, none⟩) (Kd.R_far (p := ⟨gb596, 0, none⟩) (Kd.R_types HO600.out BK596.out (by decide)) (fun _ hk => hk.2) (.int .i64 t597)) (fun _ hk => hk.2) (.slice Ao17 t598.length co17)) (fun _ hk => hk.2) (.slice Ao18 t601.length co18)) (fun _ hk => trivial), by refine rk ?_; exact Kd.R_mono (Kd.R_far (p := ⟨gb596, 2, none⟩) (Kd.R_far (p := ⟨gb596, 1, none⟩) (Kd.R_far (p := ⟨gb596, 0, none⟩) (Kd.R_types HO603.out BK596.out (by decide)) (fun _ hk => hk.2) (.int .i64 t597)) (fun _ hk => hk.2) (.slice Ao17 t598.length co17)) (fun _ hk => hk.2) (.slice Ao18 t601.length co18)) (fun _ hk => trivial), bl HB.out⟩

end Go.Proofs.Ytghfeapncmlihaa.A
