/- Used by the law FnExactBankGaps. -/
import Derived.Test.YtbpjidekjogfeaaZFnExactBankGapsx11
import Derived.Test.YtbpjidekjogfeaaZFnExactBankGapsx13
import Derived.Test.YtbpjidekjogfeaaZFnExactBankGapsx15
import Derived.Test.YtbpjidekjogfeaaZFnExactBankGapsx16
import Derived.ProofKit
import Derived.OpenShut
import Derived.ShutString
import Derived.ChangeOld
import Derived.SizedLaws
import Derived.ChangeArms
import Derived.Test.YtbpjidekjogfeaaZFnExactBankGapsx14
import Derived.Test.YtbpjidekjogfeaaZFnExactBankGapsx12
import Derived.Test.YtbpjidekjogfeaaZFnExactBankGapsh
namespace Go.Proofs.Ytbpjidekjogfeaa.A
open Go.RowKit Go.Proofs.YtbpjidekjogfeaaW.PrintWords Go.Proofs.YtbpjidekjogfeaaW.PrintLast Go.Proofs.YtbpjidekjogfeaaW.PrintMore
attribute [local go_sem] max2_int min2_int max_two min_two max_three min_three max_four min_four   
set_option linter.unusedVariables false
set_option linter.unusedSimpArgs false
def laws_markGapS.l0 : Nat → List (S50) → Int → Int → Option (Int × (List (S50)))
 | 0, _, _, _ => none
 | k + 1, x0, x1, x5 => if x5 < (x0.length : Int) then (if 0 ≤ x5 then ((some (x0.set (x5 : Int).toNat (⟨x1, (rd_T50 x0 x5).f1, (rd_T50 x0 x5).f2⟩ : S50) : List (S50))).bind fun y261 => ((some (y261.set (x5 : Int).toNat (⟨(rd_T50 y261 x5).f0, wrap64 (x1 + 1), (rd_T50 y261 x5).f2⟩ : S50) : List (S50))).bind fun y262 => (laws_markGapS.l0 k (y262.set (x5 : Int).toNat (⟨(rd_T50 y262 x5).f0, (rd_T50 y262 x5).f1, wrap64 ((wrap64 (x1 + 1)) + 1)⟩ : S50)) (wrap64 ((wrap64 ((wrap64 (x1 + 1)) + 1)) + 1)) (wrap64 (x5 + 1))))) else (none)) else (some (x1, x0))
def laws_markGapS.f (k : Nat) (l0 : List (S50)) (a1 : Int) : Option (Int × (List (S50))) := laws_markGapS.l0 k l0 a1 0
set_option maxHeartbeats 8000000 in
set_option maxRecDepth 100000 in
theorem laws_markGapS.calls (k : Nat) (P0_ : Nat → Prop) (u9000_ : Value) (l0 : List (S50)) (a1 : Int) (r1 : Int) (r2 : List (S50)) (w0 w : World) (hB : Below w0.heap.size w0 w) (ho0 : Kd.R k50 50 w w0.heap.size P0_ u9000_ l0) (h : laws_markGapS.f k l0 a1 = some (r1, r2)) :
  Calls Try.prog 22 #[u9000_, .int .i64 a1] w fun e w' => e = .returned (.int .i64 r1) ∧ Kd.R k50 50 w' w0.heap.size (fun k_ => (P0_ k_ ∨ w.heap.size ≤ k_)) u9000_ r2 ∧ Below w0.heap.size w0 w' ∧ Kept w w' (fun k_ => P0_ k_) := by
 have HO0 := Aside0.mk (show Kd.R k50 50 w w0.heap.size (fun k_ => (P0_ k_ ∨ w.heap.size ≤ k_)) u9000_ l0 from Kd.R_mono ho0 (fun k_ hk => (.inl hk)))
 have HK := Aside0.mk (Kept.refl w (fun k_ => P0_ k_))
 have HW0 := Aside0.mk hB.size
 have HB := Aside0.mk hB
 clear hB
 have H : (laws_markGapS.l0 k l0 a1 0) = some (r1, r2) := h
 clear h
 have H' := Aside0.mk H
 clear H
 go_enter Try.func22, Try.ntmps22
 go_wp2
 go_loopg [1, 5] k (fun kq v1 v5 w' => ∃ (x0_1 : List (S50)) (x1_1 : Int) (x5_1 : Int), v1 = .int .i64 x1_1 ∧ v5 = .int .i64 x5_1 ∧ Aside0 (laws_markGapS.l0 kq x0_1 x1_1 x5_1 = some (r1, r2)) ∧ Aside0 (kq ≤ k) ∧ Aside0 (Kd.R k50 50 w' w0.heap.size (fun k_ => (P0_ k_ ∨ w.heap.size ≤ k_)) u9000_ x0_1) ∧ Aside0 (Kept w w' (fun k_ => P0_ k_)) ∧ Aside0 (Below w0.heap.size w0 w'))
 case atStart => exact ⟨(l0), (a1), (0), (by first | rfl | (simp; done) | (simp [*]; done)), (by first | rfl | (simp; done) | (simp [*]; done)), H', ⟨Nat.le_refl _⟩, ⟨rk HO0.out⟩, ⟨by repeat (first | (with_reducible first | exact HK.out | apply Kept.alloc | apply Kept.drewN | apply Kept.drew) | exact HK.out)⟩, ⟨bl HB.out⟩⟩
 case round =>
  clear H'
  try clear c2
  try clear p2
  obtain ⟨x0_1, x1_1, x5_1, rfl, rfl, HA, HK1, HO_0, HK, HB⟩ := hrel
  cases gk with
  | zero => exact absurd HA.out (by simp [laws_markGapS.l0])
  | succ k1 =>
   have H := HA.out
   clear HA
   simp only [laws_markGapS.l0] at H
   by_cases c3 : x5_1 < (x0_1.length : Int)
   ·rw [if_pos c3] at H
    have c3b0 : decide (x5_1 < (x0_1.length : Int)) = true := decide_eq_true c3
    clear c3
    by_cases c4 : 0 ≤ x5_1
    ·rw [if_pos c4] at H
     have c4b0 : decide (0 ≤ x5_1) = true := decide_eq_true c4
     clear c4
     obtain ⟨y261, hy261⟩ : ∃ y_ : List (S50), y_ = (x0_1.set (x5_1 : Int).toNat (⟨x1_1, (rd_T50 x0_1 x5_1).f1, (rd_T50 x0_1 x5_1).f2⟩ : S50)) := ⟨_, rfl⟩
     replace H : ((some (y261.set (x5_1 : Int).toNat (⟨(rd_T50 y261 x5_1).f0, wrap64 (x1_1 + 1), (rd_T50 y261 x5_1).f2⟩ : S50) : List (S50))).bind fun y262 => (laws_markGapS.l0 k1 (y262.set (x5_1 : Int).toNat (⟨(rd_T50 y262 x5_1).f0, (rd_T50 y262 x5_1).f1, wrap64 ((wrap64 (x1_1 + 1)) + 1)⟩ : S50)) (wrap64 ((wrap64 ((wrap64 (x1_1 + 1)) + 1)) + 1)) (wrap64 (x5_1 + 1)))) = some (r1, r2) := by first | (rw [hy261]; with_reducible exact H) | (have H2_ := (Option.bind_some _ _).symm.trans H; rw [hy261]; with_reducible exact H2_) | (have H2_ := (Option.bind_some _ _).symm.trans H; with_reducible exact H2_) | with_reducible exact H | (rw [hy261]; exact H) | exact H
     have Ny261 := Aside0.mk hy261
     clear hy261
     obtain ⟨y262, hy262⟩ : ∃ y_ : List (S50), y_ = (y261.set (x5_1 : Int).toNat (⟨(rd_T50 y261 x5_1).f0, wrap64 (x1_1 + 1), (rd_T50 y261 x5_1).f2⟩ : S50)) := ⟨_, rfl⟩
     replace H : (laws_markGapS.l0 k1 (y262.set (x5_1 : Int).toNat (⟨(rd_T50 y262 x5_1).f0, (rd_T50 y262 x5_1).f1, wrap64 ((wrap64 (x1_1 + 1)) + 1)⟩ : S50)) (wrap64 ((wrap64 ((wrap64 (x1_1 + 1)) + 1)) + 1)) (wrap64 (x5_1 + 1))) = some (r1, r2) := by first | (rw [hy262]; with_reducible exact H) | (have H2_ := (Option.bind_some _ _).symm.trans H; rw [hy262]; with_reducible exact H2_) | (have H2_ := (Option.bind_some _ _).symm.trans H; with_reducible exact H2_) | with_reducible exact H | (rw [hy262]; exact H) | exact H
     have Ny262 := Aside0.mk hy262
     clear hy262
     obtain ⟨y263, hy263⟩ : ∃ y_ : List (S50), y_ = (y262.set (x5_1 : Int).toNat (⟨(rd_T50 y262 x5_1).f0, (rd_T50 y262 x5_1).f1, wrap64 ((wrap64 (x1_1 + 1)) + 1)⟩ : S50)) := ⟨_, rfl⟩
     replace H : (laws_markGapS.l0 k1 y263 (wrap64 ((wrap64 ((wrap64 (x1_1 + 1)) + 1)) + 1)) (wrap64 (x5_1 + 1))) = some (r1, r2) := by first | (rw [hy263]; with_reducible exact H) | (have H2_ := (Option.bind_some _ _).symm.trans H; rw [hy263]; with_reducible exact H2_) | (have H2_ := (Option.bind_some _ _).symm.trans H; with_reducible exact H2_) | with_reducible exact H | (rw [hy263]; exact H) | exact H
     have Ny263 := Aside0.mk hy263
     clear hy263
     have H' := Aside0.mk H
     clear H
     obtain ⟨Ao8, co8, eo8⟩ := Kd.R_slice HO_0.out
     subst eo8
     have p5 : 0 ≤ (x5_1 : Int) := of_decide_eq_true asm
     have q5 : (x5_1 : Int) < ((x0_1.length : Int) : Int) := of_decide_eq_true asm
     obtain ⟨go5, co5, eo5, gb5, gl5, cl5, HG5⟩ := Kd.R_form HO_0.out (by omega)
     (first | cases eo5 | (injection eo5 with ea_ en_ ec_; (first | subst ea_ | (injection ea_ with ea_; subst ea_)); subst ec_; clear en_))
     have GB5 := Aside0.mk gb5
     have GG5 := Aside0.mk HG5
     clear gb5 gl5 HG5
     have HMgo5 := Aside0.mk (show (P0_ go5 ∨ w.heap.size ≤ go5) from (HO_0.out.1 _ rfl))
     obtain ⟨ce5, hcl5, hM5, hcc5, hfr5⟩ := Kd.R_elem HO_0.out z50 (x5_1 : Int) p5 q5
     obtain rfl := k50_openM hM5
     have hx5_0 : wr.cell? ⟨go5, (x5_1 : Int).toNat * 3, none⟩ = some (.int .i64 ((rd_T50 x0_1 x5_1).f0)) := hcc5 0 _ rfl
     have hx5_1 : wr.cell? ⟨go5, (x5_1 : Int).toNat * 3 + 1, none⟩ = some (.int .i64 ((rd_T50 x0_1 x5_1).f1)) := hcc5 1 _ rfl
     have hx5_2 : wr.cell? ⟨go5, (x5_1 : Int).toNat * 3 + 2, none⟩ = some (.int .i64 ((rd_T50 x0_1 x5_1).f2)) := hcc5 2 _ rfl
     have hf5_0 : wr.frozen? ⟨go5, (x5_1 : Int).toNat * 3, none⟩ = false := hfr5 0
     have hf5_1 : wr.frozen? ⟨go5, (x5_1 : Int).toNat * 3 + 1, none⟩ = false := hfr5 1
     have hf5_2 : wr.frozen? ⟨go5, (x5_1 : Int).toNat * 3 + 2, none⟩ = false := hfr5 2
     clear hcl5 hcc5 hfr5 hM5
     replace p5 := eq_true p5
     replace q5 := eq_true q5
     have HX9 := Aside0.mk (show Kd.R k50 50 wr w0.heap.size (fun k_ => (P0_ k_ ∨ w.heap.size ≤ k_)) (.slice (some ⟨go5, 0, none⟩) x0_1.length co8) x0_1 from (rk HO_0.out))
     obtain ⟨ce9, hcl9, hM9, hcc9, hfr9⟩ := Kd.R_elem HX9.out z50 (x5_1 : Int) (of_decide_eq_true asm) (by have h_ : (x5_1 : Int) < ((x0_1.length : Int) : Int) := of_decide_eq_true asm; first | exact h_ | (have e_ := (Kd.R_reads' HO_0.out).1; omega) | simpa using h_)
     obtain rfl := k50_openM hM9
     have HP9 := Kd.R_seg HX9.out (x5_1 : Int) (of_decide_eq_true asm) (by have h_ : (x5_1 : Int) < ((x0_1.length : Int) : Int) := of_decide_eq_true asm; first | exact h_ | (have e_ := (Kd.R_reads' HO_0.out).1; omega) | simpa using h_) (seg := [.int .i64 x1_1]) (j := 0) hcl9 hcc9 (show 1 ≤ 3 from by decide) (x' := (⟨x1_1, (rd_T50 x0_1 x5_1).f1, (rd_T50 x0_1 x5_1).f2⟩ : S50)) (k50_mkM _ _ _ (⟨x1_1, (rd_T50 x0_1 x5_1).f1, (rd_T50 x0_1 x5_1).f2⟩ : S50) ) (fun _ hk => hk)
     have hx9_0 := hcc9 0 _ rfl
     (try simp only [show (k50).sz = 3 from rfl, Nat.mul_one, Nat.add_zero] at hx9_0)
     have hf9_0 := hfr9 0
     (try simp only [show (k50).sz = 3 from rfl, Nat.mul_one, Nat.add_zero] at hf9_0)
     clear hcl9 hcc9 hfr9 hM9
     go_wp2_with (first | ((with_reducible refine gate_store (t := 3) (p := 16) rfl ?_); refine store_event (t := 3) (p := 16) (v := ?vo_w10) (w1 := (wr.setCell ⟨go5, (x5_1 : Int).toNat * 3, none⟩ (.int .i64 x1_1))) ?hg ?ho ?hn ?hr ?_; (case ho => rfl); (case hg => rfl); (case hn => rfl); (case hr => first | (go_simp; done) | (go_simp; rfl)); intro w10 hw; have hg : wr.grownBy w10 (some go5) := (by rw [hw]; exact HP9.2); have hp_ : Kd.R k50 50 w10 w0.heap.size (fun k_ => (P0_ k_ ∨ w.heap.size ≤ k_)) (.slice (some ⟨go5, 0, none⟩) x0_1.length co8) y261 := (by rw [hw, Ny261.out]; exact HP9.1); clear HP9; replace HB := Aside0.mk ((by rw [hw]; exact below_set (HB.out) GB5.out : Below w0.heap.size w0 w10)); replace HK := Aside0.mk (Kept.of_grown (S := (fun k_ => P0_ k_)) hg (by repeat (first | (with_reducible first | exact HK.out | apply Kept.alloc | apply Kept.drewN | apply Kept.drew) | exact HK.out)) (fun k_ e_ => (HO_0.out.1 k_ e_))); replace HO_0 := Aside0.mk (hp_); clear hg hw hp_; have p6 : 0 ≤ (x5_1 : Int) := of_decide_eq_true asm; have q6 : (x5_1 : Int) < ((x0_1.length : Int) : Int) := of_decide_eq_true asm; obtain ⟨ce6, hcl6, hM6, hcc6, hfr6⟩ := Kd.R_elem HO_0.out z50 (x5_1 : Int) p6 q6; obtain rfl := k50_openM hM6; have hx6_0 : w10.cell? ⟨go5, (x5_1 : Int).toNat * 3, none⟩ = some (.int .i64 ((rd_T50 y261 x5_1).f0)) := hcc6 0 _ rfl; have hx6_1 : w10.cell? ⟨go5, (x5_1 : Int).toNat * 3 + 1, none⟩ = some (.int .i64 ((rd_T50 y261 x5_1).f1)) := hcc6 1 _ rfl; have hx6_2 : w10.cell? ⟨go5, (x5_1 : Int).toNat * 3 + 2, none⟩ = some (.int .i64 ((rd_T50 y261 x5_1).f2)) := hcc6 2 _ rfl; have hf6_0 : w10.frozen? ⟨go5, (x5_1 : Int).toNat * 3, none⟩ = false := hfr6 0; have hf6_1 : w10.frozen? ⟨go5, (x5_1 : Int).toNat * 3 + 1, none⟩ = false := hfr6 1; have hf6_2 : w10.frozen? ⟨go5, (x5_1 : Int).toNat * 3 + 2, none⟩ = false := hfr6 2; clear hcl6 hcc6 hfr6 hM6; replace p6 := eq_true p6; replace q6 := eq_true q6; have HX11 := Aside0.mk (show Kd.R k50 50 w10 w0.heap.size (fun k_ => (P0_ k_ ∨ w.heap.size ≤ k_)) (.slice (some ⟨go5, 0, none⟩) x0_1.length co8) y261 from (rk HO_0.out)); obtain ⟨ce11, hcl11, hM11, hcc11, hfr11⟩ := Kd.R_elem HX11.out z50 (x5_1 : Int) (of_decide_eq_true asm) (by have h_ : (x5_1 : Int) < ((x0_1.length : Int) : Int) := of_decide_eq_true asm; first | exact h_ | (have e_ := (Kd.R_reads' HO_0.out).1; omega) | simpa using h_); obtain rfl := k50_openM hM11; have HP11 := Kd.R_seg HX11.out (x5_1 : Int) (of_decide_eq_true asm) (by have h_ : (x5_1 : Int) < ((x0_1.length : Int) : Int) := of_decide_eq_true asm; first | exact h_ | (have e_ := (Kd.R_reads' HO_0.out).1; omega) | simpa using h_) (seg := [.int .i64 (wrap64 (x1_1 + 1))]) (j := 1) hcl11 hcc11 (show 2 ≤ 3 from by decide) (x' := (⟨(rd_T50 y261 x5_1).f0, wrap64 (x1_1 + 1), (rd_T50 y261 x5_1).f2⟩ : S50)) (k50_mkM _ _ _ (⟨(rd_T50 y261 x5_1).f0, wrap64 (x1_1 + 1), (rd_T50 y261 x5_1).f2⟩ : S50) ) (fun _ hk => hk); have hx11_1 := hcc11 1 _ rfl; (try simp only [show (k50).sz = 3 from rfl, Nat.mul_one, Nat.add_zero] at hx11_1); have hf11_1 := hfr11 1; (try simp only [show (k50).sz = 3 from rfl, Nat.mul_one, Nat.add_zero] at hf11_1); clear hcl11 hcc11 hfr11 hM11) | ((with_reducible refine gate_store (t := 3) (p := 23) rfl ?_); refine store_event (t := 3) (p := 23) (v := ?vo_w12) (w1 := (w10.setCell ⟨go5, (x5_1 : Int).toNat * 3 + 1, none⟩ (.int .i64 (wrap64 (x1_1 + 1))))) ?hg ?ho ?hn ?hr ?_; (case ho => rfl); (case hg => rfl); (case hn => rfl); (case hr => first | (go_simp; done) | (go_simp; rfl)); intro w12 hw; have hg : w10.grownBy w12 (some go5) := (by rw [hw]; exact HP11.2); have hp_ : Kd.R k50 50 w12 w0.heap.size (fun k_ => (P0_ k_ ∨ w.heap.size ≤ k_)) (.slice (some ⟨go5, 0, none⟩) x0_1.length co8) y262 := (by rw [hw, Ny262.out]; exact HP11.1); clear HP11; replace HB := Aside0.mk ((by rw [hw]; exact below_set (HB.out) GB5.out : Below w0.heap.size w0 w12)); replace HK := Aside0.mk (Kept.of_grown (S := (fun k_ => P0_ k_)) hg (by repeat (first | (with_reducible first | exact HK.out | apply Kept.alloc | apply Kept.drewN | apply Kept.drew) | exact HK.out)) (fun k_ e_ => (HO_0.out.1 k_ e_))); replace HO_0 := Aside0.mk (hp_); clear hg hw hp_; have p7 : 0 ≤ (x5_1 : Int) := of_decide_eq_true asm; have q7 : (x5_1 : Int) < ((x0_1.length : Int) : Int) := of_decide_eq_true asm; obtain ⟨ce7, hcl7, hM7, hcc7, hfr7⟩ := Kd.R_elem HO_0.out z50 (x5_1 : Int) p7 q7; obtain rfl := k50_openM hM7; have hx7_0 : w12.cell? ⟨go5, (x5_1 : Int).toNat * 3, none⟩ = some (.int .i64 ((rd_T50 y262 x5_1).f0)) := hcc7 0 _ rfl; have hx7_1 : w12.cell? ⟨go5, (x5_1 : Int).toNat * 3 + 1, none⟩ = some (.int .i64 ((rd_T50 y262 x5_1).f1)) := hcc7 1 _ rfl; have hx7_2 : w12.cell? ⟨go5, (x5_1 : Int).toNat * 3 + 2, none⟩ = some (.int .i64 ((rd_T50 y262 x5_1).f2)) := hcc7 2 _ rfl; have hf7_0 : w12.frozen? ⟨go5, (x5_1 : Int).toNat * 3, none⟩ = false := hfr7 0; have hf7_1 : w12.frozen? ⟨go5, (x5_1 : Int).toNat * 3 + 1, none⟩ = false := hfr7 1; have hf7_2 : w12.frozen? ⟨go5, (x5_1 : Int).toNat * 3 + 2, none⟩ = false := hfr7 2; clear hcl7 hcc7 hfr7 hM7; replace p7 := eq_true p7; replace q7 := eq_true q7; have HX13 := Aside0.mk (show Kd.R k50 50 w12 w0.heap.size (fun k_ => (P0_ k_ ∨ w.heap.size ≤ k_)) (.slice (some ⟨go5, 0, none⟩) x0_1.length co8) y262 from (rk HO_0.out)); obtain ⟨ce13, hcl13, hM13, hcc13, hfr13⟩ := Kd.R_elem HX13.out z50 (x5_1 : Int) (of_decide_eq_true asm) (by have h_ : (x5_1 : Int) < ((x0_1.length : Int) : Int) := of_decide_eq_true asm; first | exact h_ | (have e_ := (Kd.R_reads' HO_0.out).1; omega) | simpa using h_); obtain rfl := k50_openM hM13; have HP13 := Kd.R_seg HX13.out (x5_1 : Int) (of_decide_eq_true asm) (by have h_ : (x5_1 : Int) < ((x0_1.length : Int) : Int) := of_decide_eq_true asm; first | exact h_ | (have e_ := (Kd.R_reads' HO_0.out).1; omega) | simpa using h_) (seg := [.int .i64 (wrap64 ((wrap64 (x1_1 + 1)) + 1))]) (j := 2) hcl13 hcc13 (show 3 ≤ 3 from by decide) (x' := (⟨(rd_T50 y262 x5_1).f0, (rd_T50 y262 x5_1).f1, wrap64 ((wrap64 (x1_1 + 1)) + 1)⟩ : S50)) (k50_mkM _ _ _ (⟨(rd_T50 y262 x5_1).f0, (rd_T50 y262 x5_1).f1, wrap64 ((wrap64 (x1_1 + 1)) + 1)⟩ : S50) ) (fun _ hk => hk); have hx13_2 := hcc13 2 _ rfl; (try simp only [show (k50).sz = 3 from rfl, Nat.mul_one, Nat.add_zero] at hx13_2); have hf13_2 := hfr13 2; (try simp only [show (k50).sz = 3 from rfl, Nat.mul_one, Nat.add_zero] at hf13_2); clear hcl13 hcc13 hfr13 hM13) | ((with_reducible refine gate_store (t := 3) (p := 30) rfl ?_); refine store_event (t := 3) (p := 30) (v := ?vo_w14) (w1 := (w12.setCell ⟨go5, (x5_1 : Int).toNat * 3 + 2, none⟩ (.int .i64 (wrap64 ((wrap64 (x1_1 + 1)) + 1))))) ?hg ?ho ?hn ?hr ?_; (case ho => rfl); (case hg => rfl); (case hn => rfl); (case hr => first | (go_simp; done) | (go_simp; rfl)); intro w14 hw; have hg : w12.grownBy w14 (some go5) := (by rw [hw]; exact HP13.2); have hp_ : Kd.R k50 50 w14 w0.heap.size (fun k_ => (P0_ k_ ∨ w.heap.size ≤ k_)) (.slice (some ⟨go5, 0, none⟩) x0_1.length co8) y263 := (by rw [hw, Ny263.out]; exact HP13.1); clear HP13; replace HB := Aside0.mk ((by rw [hw]; exact below_set (HB.out) GB5.out : Below w0.heap.size w0 w14)); replace HK := Aside0.mk (Kept.of_grown (S := (fun k_ => P0_ k_)) hg (by repeat (first | (with_reducible first | exact HK.out | apply Kept.alloc | apply Kept.drewN | apply Kept.drew) | exact HK.out)) (fun k_ e_ => (HO_0.out.1 k_ e_))); replace HO_0 := Aside0.mk (hp_); clear hg hw hp_))
     go_roundg k1
     case measure => have := HK1.out; omega
     case rel => exact ⟨(y263), (wrap64 ((wrap64 ((wrap64 (x1_1 + 1)) + 1)) + 1)), (wrap64 (x5_1 + 1)), (by first | rfl | (simp; done) | (simp [*]; done)), (by first | rfl | (simp; done) | (simp [*]; done)), H', ⟨by have := HK1.out; omega⟩, ⟨rk HO_0.out⟩, ⟨by repeat (first | (with_reducible first | exact HK.out | apply Kept.alloc | apply Kept.drewN | apply Kept.drew) | exact HK.out)⟩, ⟨bl HB.out⟩⟩
    ·rw [if_neg c4] at H
     exact absurd H (by simp)
   ·rw [if_neg c3] at H
    have c3b0 : decide (x5_1 < (x0_1.length : Int)) = false := decide_eq_false c3
    clear c3
    simp only [Option.some.injEq, Prod.mk.injEq] at H
    obtain ⟨rfl, rfl⟩ := H
    obtain ⟨Ao15, co15, eo15⟩ := Kd.R_slice HO_0.out
    subst eo15
    go_wp2
    go_ret
    exact ⟨by first | rfl | (simp [errW_none, errW_some] <;> rfl) | (simp [*, errW_none, errW_some] <;> rfl), rk HO_0.out, bl HB.out, by repeat (first | (with_reducible first | exact HK.out | apply Kept.alloc | apply Kept.drewN | apply Kept.drew) | exact HK.out)⟩
def laws_heldGapS.l0 : Nat → List (S50) → Int → Int → Option (Int)
 | 0, _, _, _ => none
 | k + 1, x0, x1, x5 => if x5 < (x0.length : Int) then (if 0 ≤ x5 then (if ((rd_T50 x0 x5).f0) = x1 then (if ((rd_T50 x0 x5).f1) = (wrap64 (x1 + 1)) then (if ((rd_T50 x0 x5).f2) = (wrap64 ((wrap64 (x1 + 1)) + 1)) then (laws_heldGapS.l0 k x0 (wrap64 ((wrap64 ((wrap64 (x1 + 1)) + 1)) + 1)) (wrap64 (x5 + 1))) else (some (-1))) else (some (-1))) else (some (-1))) else (none)) else (some x1)
def laws_heldGapS.f (k : Nat) (l0 : List (S50)) (a1 : Int) : Option (Int) := laws_heldGapS.l0 k l0 a1 0
set_option maxHeartbeats 8000000 in
set_option maxRecDepth 100000 in
theorem laws_heldGapS.calls (k : Nat) (A0 : Option Addr) (c0 : Nat) (l0 : List (S50)) (a1 : Int) (r : Int) (w : World) (hr0 : Kd.C k50 w A0 l0.length l0) (hc0 : l0.length ≤ c0) (h : laws_heldGapS.f k l0 a1 = some r) :
  Calls Try.prog 23 #[.slice A0 l0.length c0, .int .i64 a1] w fun e w' => e = .returned (.int .i64 r) ∧ Drawn0 w w' := by
 have HR0 := Aside0.mk hr0
 have HC0 := Aside0.mk hc0
 clear hr0 hc0
 have H : (laws_heldGapS.l0 k l0 a1 0) = some r := h
 clear h
 have H' := Aside0.mk H
 clear H
 go_enter Try.func23, Try.ntmps23
 go_wp2
 go_loopg [1, 5] k (fun kq v1 v5 w' => ∃ (x1_1 : Int) (x5_1 : Int), v1 = .int .i64 x1_1 ∧ v5 = .int .i64 x5_1 ∧ Aside0 (laws_heldGapS.l0 kq l0 x1_1 x5_1 = some r) ∧ Aside0 (kq ≤ k) ∧ Drawn0 w w')
 case atStart => exact ⟨(a1), (0), (by first | rfl | (simp; done) | (simp [*]; done)), (by first | rfl | (simp; done) | (simp [*]; done)), H', ⟨Nat.le_refl _⟩, by repeat (first | exact Drawn0.refl _ | apply Drawn0.step)⟩
 case round =>
  clear H'
  try clear c2
  try clear p2
  obtain ⟨x1_1, x5_1, rfl, rfl, HA, HK1, ⟨m1, rfl⟩⟩ := hrel
  cases gk with
  | zero => exact absurd HA.out (by simp [laws_heldGapS.l0])
  | succ k1 =>
   have H := HA.out
   clear HA
   simp only [laws_heldGapS.l0] at H
   by_cases c3 : x5_1 < (l0.length : Int)
   ·rw [if_pos c3] at H
    have c3b0 : decide (x5_1 < (l0.length : Int)) = true := decide_eq_true c3
    clear c3
    by_cases c4 : 0 ≤ x5_1
    ·rw [if_pos c4] at H
     have c4b0 : decide (0 ≤ x5_1) = true := decide_eq_true c4
     clear c4
     by_cases c5 : ((rd_T50 l0 x5_1).f0) = x1_1
     ·rw [if_pos c5] at H
      have c5b0 : (((rd_T50 l0 x5_1).f0) == x1_1) = true := beq_iff_eq.mpr c5
      have c5b1 : (((rd_T50 l0 x5_1).f0) != x1_1) = false := bne_eq_false_iff_eq.mpr c5
      clear c5
      by_cases c6 : ((rd_T50 l0 x5_1).f1) = (wrap64 (x1_1 + 1))
      ·rw [if_pos c6] at H
       have c6b0 : (((rd_T50 l0 x5_1).f1) == (wrap64 (x1_1 + 1))) = true := beq_iff_eq.mpr c6
       have c6b1 : (((rd_T50 l0 x5_1).f1) != (wrap64 (x1_1 + 1))) = false := bne_eq_false_iff_eq.mpr c6
       clear c6
       by_cases c7 : ((rd_T50 l0 x5_1).f2) = (wrap64 ((wrap64 (x1_1 + 1)) + 1))
       ·rw [if_pos c7] at H
        have c7b0 : (((rd_T50 l0 x5_1).f2) == (wrap64 ((wrap64 (x1_1 + 1)) + 1))) = true := beq_iff_eq.mpr c7
        have c7b1 : (((rd_T50 l0 x5_1).f2) != (wrap64 ((wrap64 (x1_1 + 1)) + 1))) = false := bne_eq_false_iff_eq.mpr c7
        clear c7
        have H' := Aside0.mk H
        clear H
        have p264 : 0 ≤ (x5_1 : Int) := of_decide_eq_true asm
        have q264 : x5_1 < (l0.length : Int) := of_decide_eq_true asm
        obtain ⟨ad264, e264, hx264_0, hx264_1, hx264_2⟩ := at_T50 HR0.out x5_1 p264 q264
        cases e264
        replace p264 := eq_true p264
        replace q264 := eq_true q264
        have p265 : 0 ≤ (x5_1 : Int) := of_decide_eq_true asm
        have q265 : x5_1 < (l0.length : Int) := of_decide_eq_true asm
        obtain ⟨ad265, e265, hx265_0, hx265_1, hx265_2⟩ := at_T50 HR0.out x5_1 p265 q265
        obtain rfl : ad264 = ad265 := (by injection e265)
        replace p265 := eq_true p265
        replace q265 := eq_true q265
        have p266 : 0 ≤ (x5_1 : Int) := of_decide_eq_true asm
        have q266 : x5_1 < (l0.length : Int) := of_decide_eq_true asm
        obtain ⟨ad266, e266, hx266_0, hx266_1, hx266_2⟩ := at_T50 HR0.out x5_1 p266 q266
        obtain rfl : ad264 = ad266 := (by injection e266)
        replace p266 := eq_true p266
        replace q266 := eq_true q266
        go_wp2
        go_roundg k1
        case measure => have := HK1.out; omega
        case rel => exact ⟨(wrap64 ((wrap64 ((wrap64 (x1_1 + 1)) + 1)) + 1)), (wrap64 (x5_1 + 1)), (by first | rfl | (simp; done) | (simp [*]; done)), (by first | rfl | (simp; done) | (simp [*]; done)), H', ⟨by have := HK1.out; omega⟩, by repeat (first | exact Drawn0.refl _ | apply Drawn0.step)⟩
       ·rw [if_neg c7] at H
        have c7b0 : (((rd_T50 l0 x5_1).f2) == (wrap64 ((wrap64 (x1_1 + 1)) + 1))) = false := beq_eq_false_iff_ne.mpr c7
        have c7b1 : (((rd_T50 l0 x5_1).f2) != (wrap64 ((wrap64 (x1_1 + 1)) + 1))) = true := bne_iff_ne.mpr c7
        obtain rfl := Option.some.inj H
        have p264 : 0 ≤ (x5_1 : Int) := of_decide_eq_true asm
        have q264 : x5_1 < (l0.length : Int) := of_decide_eq_true asm
        obtain ⟨ad264, e264, hx264_0, hx264_1, hx264_2⟩ := at_T50 HR0.out x5_1 p264 q264
        cases e264
        replace p264 := eq_true p264
        replace q264 := eq_true q264
        have p265 : 0 ≤ (x5_1 : Int) := of_decide_eq_true asm
        have q265 : x5_1 < (l0.length : Int) := of_decide_eq_true asm
        obtain ⟨ad265, e265, hx265_0, hx265_1, hx265_2⟩ := at_T50 HR0.out x5_1 p265 q265
        obtain rfl : ad264 = ad265 := (by injection e265)
        replace p265 := eq_true p265
        replace q265 := eq_true q265
        have p266 : 0 ≤ (x5_1 : Int) := of_decide_eq_true asm
        have q266 : x5_1 < (l0.length : Int) := of_decide_eq_true asm
        obtain ⟨ad266, e266, hx266_0, hx266_1, hx266_2⟩ := at_T50 HR0.out x5_1 p266 q266
        obtain rfl : ad264 = ad266 := (by injection e266)
        replace p266 := eq_true p266
        replace q266 := eq_true q266
        go_wp2
        go_ret
        exact ⟨by first | rfl | (simp; done) | (simp [*]; done), by repeat (first | exact Drawn0.refl _ | apply Drawn0.step)⟩
      ·rw [if_neg c6] at H
       have c6b0 : (((rd_T50 l0 x5_1).f1) == (wrap64 (x1_1 + 1))) = false := beq_eq_false_iff_ne.mpr c6
       have c6b1 : (((rd_T50 l0 x5_1).f1) != (wrap64 (x1_1 + 1))) = true := bne_iff_ne.mpr c6
       obtain rfl := Option.some.inj H
       have p264 : 0 ≤ (x5_1 : Int) := of_decide_eq_true asm
       have q264 : x5_1 < (l0.length : Int) := of_decide_eq_true asm
       obtain ⟨ad264, e264, hx264_0, hx264_1, hx264_2⟩ := at_T50 HR0.out x5_1 p264 q264
       cases e264
       replace p264 := eq_true p264
       replace q264 := eq_true q264
       have p265 : 0 ≤ (x5_1 : Int) := of_decide_eq_true asm
       have q265 : x5_1 < (l0.length : Int) := of_decide_eq_true asm
       obtain ⟨ad265, e265, hx265_0, hx265_1, hx265_2⟩ := at_T50 HR0.out x5_1 p265 q265
       obtain rfl : ad264 = ad265 := (by injection e265)
       replace p265 := eq_true p265
       replace q265 := eq_true q265
       go_wp2
       go_ret
       exact ⟨by first | rfl | (simp; done) | (simp [*]; done), by repeat (first | exact Drawn0.refl _ | apply Drawn0.step)⟩
     ·rw [if_neg c5] at H
      have c5b0 : (((rd_T50 l0 x5_1).f0) == x1_1) = false := beq_eq_false_iff_ne.mpr c5
      have c5b1 : (((rd_T50 l0 x5_1).f0) != x1_1) = true := bne_iff_ne.mpr c5
      obtain rfl := Option.some.inj H
      have p264 : 0 ≤ (x5_1 : Int) := of_decide_eq_true asm
      have q264 : x5_1 < (l0.length : Int) := of_decide_eq_true asm
      obtain ⟨ad264, e264, hx264_0, hx264_1, hx264_2⟩ := at_T50 HR0.out x5_1 p264 q264
      cases e264
      replace p264 := eq_true p264
      replace q264 := eq_true q264
      go_wp2
      go_ret
      exact ⟨by first | rfl | (simp; done) | (simp [*]; done), by repeat (first | exact Drawn0.refl _ | apply Drawn0.step)⟩
    ·rw [if_neg c4] at H
     exact absurd H (by simp)
   ·rw [if_neg c3] at H
    have c3b0 : decide (x5_1 < (l0.length : Int)) = false := decide_eq_false c3
    clear c3
    obtain rfl := Option.some.inj H
    go_wp2
    go_ret
    exact ⟨by first | rfl | (simp; done) | (simp [*]; done), by repeat (first | exact Drawn0.refl _ | apply Drawn0.step)⟩
end Go.Proofs.Ytbpjidekjogfeaa.A

namespace Go.Proofs.Ytbpjidekjogfeaa.A
open Go.RowKit Go.Proofs.YtbpjidekjogfeaaW.PrintWords Go.Proofs.YtbpjidekjogfeaaW.PrintLast Go.Proofs.YtbpjidekjogfeaaW.PrintMore
attribute [local go_sem] max2_int min2_int max_two min_two max_three min_three max_four min_four   
set_option linter.unusedVariables false
set_option linter.unusedSimpArgs false
def laws_FnExactBankGaps.j0 : Nat → List (S58) → List (S50) → List (S50) → Bool → Option (Bool)
 | 0, _, _, _, _ => none
 | k + 1, x0, x4, x6, x42 => if x42 = true then (some false) else ((laws_markGapS.f k x6 1).bind fun bt287 => ((laws_heldGapS.f k bt287.2 1).bind fun t289 => (if t289 < 0 then (some false) else (if t289 = bt287.1 then ((laws_toColumnS.f k x0).bind fun t290 => ((impl_BankGaps.f k t290).bind fun t293 => ((laws_eqGapS.f k t293 x4).bind fun t296 => (if t296 = true then ((laws_heldGapS.f k bt287.2 1).bind fun t297 => (if t297 < 0 then (some false) else (if t297 = bt287.1 then (some true) else (some false)))) else (some false))))) else (some false)))))
def laws_FnExactBankGaps.f (k : Nat) (l0 : List (S58)) : Option (Bool) := (laws_szColumnS.f k l0 1048576).bind fun t267 => (if t267 < 0 then (some true) else ((laws_toColumnS.f k l0).bind fun t268 => ((spec_BankGaps.f k t268).bind fun t271 => ((laws_toColumnS.f k l0).bind fun t274 => ((impl_BankGaps.f k t274).bind fun t277 => ((laws_eqGapS.f k t277 t271).bind fun t280 => (if t280 = true then ((laws_toColumnS.f k l0).bind fun t281 => ((laws_eqColumnS.f k t274 t281).bind fun t284 => (if t284 = true then ((laws_markColumnS.f k t274 1).bind fun t285 => (if t285 < 0 then (laws_FnExactBankGaps.j0 k l0 t271 t277 true) else ((laws_eqGapS.f k t277 t271).bind fun t286 => (laws_FnExactBankGaps.j0 k l0 t271 t277 (!t286))))) else (some false)))) else (some false))))))))
set_option maxHeartbeats 8000000 in
set_option maxRecDepth 100000 in
theorem laws_FnExactBankGaps.calls (k : Nat) (A0 : Option Addr) (c0 : Nat) (l0 : List (S58)) (r : Bool) (w : World) (hr0 : Kd.C k58 w A0 l0.length l0) (hc0 : l0.length ≤ c0) (hr_ : Aside0 (r = true)) (h : laws_FnExactBankGaps.f k l0 = some r) :
  Calls Try.prog 3 #[.slice A0 l0.length c0] w fun e w' => e = .returned (.bool r) ∧ Below w.heap.size w w' := by
 have HR0 := Aside0.mk hr0
 have HC0 := Aside0.mk hc0
 clear hr0 hc0
 have HB := Aside0.mk (Below.refl w.heap.size w)
 have H : ((laws_szColumnS.f k l0 1048576).bind fun t267 => (if t267 < 0 then (some true) else ((laws_toColumnS.f k l0).bind fun t268 => ((spec_BankGaps.f k t268).bind fun t271 => ((laws_toColumnS.f k l0).bind fun t274 => ((impl_BankGaps.f k t274).bind fun t277 => ((laws_eqGapS.f k t277 t271).bind fun t280 => (if t280 = true then ((laws_toColumnS.f k l0).bind fun t281 => ((laws_eqColumnS.f k t274 t281).bind fun t284 => (if t284 = true then ((laws_markColumnS.f k t274 1).bind fun t285 => (if t285 < 0 then (laws_FnExactBankGaps.j0 k l0 t271 t277 true) else ((laws_eqGapS.f k t277 t271).bind fun t286 => (laws_FnExactBankGaps.j0 k l0 t271 t277 (!t286))))) else (some false)))) else (some false))))))))) = some r := h
 clear h
 replace H := Option.bind_eq_some_iff.mp H
 obtain ⟨t267, A20, H⟩ := H
 try dsimp only at H
 have A2 := Aside0.mk A20
 clear A20
 by_cases c3 : t267 < 0
 ·rw [if_pos c3] at H
  have c3b0 : decide (t267 < 0) = true := decide_eq_true c3
  clear c3
  obtain rfl := Option.some.inj H
  go_enter Try.func3, Try.ntmps3
  go_wp2_with (first | ((with_reducible refine gate_callee (f := 15) rfl ?_); refine goesL_ (some 13) rfl rfl Try.func15 (by kernel_rfl) rfl #[.slice A0 l0.length c0, .int .i64 1048576] rfl mapd ?_; (with_reducible refine (laws_szColumnS.calls k _ _ l0 1048576 t267 _ ?side1 ?side2 A2.out).mono ?_); (case side1 => repeat (first | exact HR0.out | (with_reducible refine Kd.C_alloc ?_ _) | (with_reducible refine Kd.C_drewN ?_ _) | (with_reducible refine Kd.C_drew ?_))); (case side2 => exact HC0.out); rintro e w4 ⟨rfl, hb⟩; refine ⟨_, rfl, ?_⟩; replace HB := Aside0.mk (below_step (bl HB.out) hb); (try clear hb); (try clear hb2); (try clear hk); (try clear hi)))
  go_ret
  exact ⟨by first | rfl | (simp [errW_none, errW_some] <;> rfl) | (simp [*, errW_none, errW_some] <;> rfl), bl HB.out⟩
 ·rw [if_neg c3] at H
  have c3b0 : decide (t267 < 0) = false := decide_eq_false c3
  clear c3
  replace H := Option.bind_eq_some_iff.mp H
  obtain ⟨t268, A50, H⟩ := H
  try dsimp only at H
  have A5 := Aside0.mk A50
  clear A50
  replace H := Option.bind_eq_some_iff.mp H
  obtain ⟨t271, A60, H⟩ := H
  try dsimp only at H
  have A6 := Aside0.mk A60
  clear A60
  replace H := Option.bind_eq_some_iff.mp H
  obtain ⟨t274, A70, H⟩ := H
  try dsimp only at H
  have A7 := Aside0.mk A70
  clear A70
  replace H := Option.bind_eq_some_iff.mp H
  obtain ⟨t277, A80, H⟩ := H
  try dsimp only at H
  have A8 := Aside0.mk A80
  clear A80
  replace H := Option.bind_eq_some_iff.mp H
  obtain ⟨t280, A90, H⟩ := H
  try dsimp only at H
  have A9 := Aside0.mk A90
  clear A90
  by_cases c10 : t280 = true
  ·subst c10
   rw [if_pos rfl] at H
   replace H := Option.bind_eq_some_iff.mp H
   obtain ⟨t281, A110, H⟩ := H
   try dsimp only at H
   have A11 := Aside0.mk A110
   clear A110
   replace H := Option.bind_eq_some_iff.mp H
   obtain ⟨t284, A120, H⟩ := H
   try dsimp only at H
   have A12 := Aside0.mk A120
   clear A120
   by_cases c13 : t284 = true
   ·subst c13
    rw [if_pos rfl] at H
    replace H := Option.bind_eq_some_iff.mp H
    obtain ⟨t285, A140, H⟩ := H
    try dsimp only at H
    have A14 := Aside0.mk A140
    clear A140
    have HC15 := Aside0.mk H
    clear H
    go_enter Try.func3, Try.ntmps3
    go_upto_region 14 with (first | ((with_reducible refine gate_callee (f := 15) rfl ?_); refine goesL_ (some 13) rfl rfl Try.func15 (by kernel_rfl) rfl #[.slice A0 l0.length c0, .int .i64 1048576] rfl mapd ?_; (with_reducible refine (laws_szColumnS.calls k _ _ l0 1048576 t267 _ ?side1 ?side2 A2.out).mono ?_); (case side1 => repeat (first | exact HR0.out | (with_reducible refine Kd.C_alloc ?_ _) | (with_reducible refine Kd.C_drewN ?_ _) | (with_reducible refine Kd.C_drew ?_))); (case side2 => exact HC0.out); rintro e w16 ⟨rfl, hb⟩; refine ⟨_, rfl, ?_⟩; replace HB := Aside0.mk (below_step (bl HB.out) hb); (try clear hb); (try clear hb2); (try clear hk); (try clear hi)) | ((with_reducible refine gate_callee (f := 17) rfl ?_); refine goesL_ (some 17) rfl rfl Try.func17 (by kernel_rfl) rfl #[.slice A0 l0.length c0] rfl mapd ?_; (with_reducible refine (laws_toColumnS.calls k _ _ l0 t268 _ ?side1 ?side2 A5.out).mono ?_); (case side1 => exact cb (Kd.C_below HR0.out HB.out)); (case side2 => exact HC0.out); rintro e w17 ⟨v269, rfl, ho0, hb⟩; refine ⟨_, rfl, ?_⟩; have HO270 := Aside0.mk (Kd.S_lower ho0 (below_size (bl HB.out))); replace HB := Aside0.mk (below_step (bl HB.out) hb); (try clear hb); (try clear hb2); (try clear hk); (try clear hi); (try clear ho0); obtain ⟨Ao18, co18, eo18⟩ := Kd.S_slice HO270.out; subst eo18) | ((with_reducible refine gate_callee (f := 16) rfl ?_); refine goesL_ (some 18) rfl rfl Try.func16 (by kernel_rfl) rfl #[.slice Ao18 t268.length co18] rfl mapd ?_; (with_reducible refine (spec_BankGaps.calls k _ _ t268 t271 _ ?side1 ?side2 A6.out).mono ?_); (case side1 => exact cb ((Kd.S_reads' HO270.out).2.2)); (case side2 => exact (Kd.S_reads' HO270.out).2.1); rintro e w19 ⟨v272, rfl, ho0, hb⟩; refine ⟨_, rfl, ?_⟩; replace HO270 := Aside0.mk (Kd.S_below (by (with_reducible repeat (first | apply Kd.S_alloc | apply Kd.S_drewN | apply Kd.S_drew)); exact HO270.out) hb); have HO273 := Aside0.mk (Kd.R_lower ho0 (below_size (bl HB.out))); replace HB := Aside0.mk (below_step (bl HB.out) hb); (try clear hb); (try clear hb2); (try clear hk); (try clear hi); (try clear ho0)) | ((with_reducible refine gate_callee (f := 17) rfl ?_); refine goesL_ (some 20) rfl rfl Try.func17 (by kernel_rfl) rfl #[.slice A0 l0.length c0] rfl mapd ?_; (with_reducible refine (laws_toColumnS.calls k _ _ l0 t274 _ ?side1 ?side2 A7.out).mono ?_); (case side1 => exact cb (Kd.C_below HR0.out HB.out)); (case side2 => exact HC0.out); rintro e w20 ⟨v275, rfl, ho0, hb⟩; refine ⟨_, rfl, ?_⟩; replace HO273 := Aside0.mk (Kd.R_below (rk HO273.out) hb); have HO276 := Aside0.mk (Kd.S_lower (Kd.S_new' ho0 (Kd.S_lt (by (with_reducible repeat (first | apply Kd.S_alloc | apply Kd.S_drewN | apply Kd.S_drew)); exact HO270.out))) (below_size (bl HB.out))); replace HO270 := Aside0.mk (Kd.S_elder' (by (with_reducible repeat (first | apply Kd.S_alloc | apply Kd.S_drewN | apply Kd.S_drew)); exact HO270.out) (Kd.S_base ho0) hb); replace HB := Aside0.mk (below_step (bl HB.out) hb); (try clear hb); (try clear hb2); (try clear hk); (try clear hi); (try clear ho0); obtain ⟨Ao21, co21, eo21⟩ := Kd.S_slice HO276.out; subst eo21) | ((with_reducible refine gate_callee (f := 18) rfl ?_); refine goesL_ (some 22) rfl rfl Try.func18 (by kernel_rfl) rfl #[.slice Ao21 t274.length co21] rfl mapd ?_; (with_reducible refine (impl_BankGaps.calls k _ _ t274 t277 _ ?side1 ?side2 A8.out).mono ?_); (case side1 => exact cb ((Kd.S_reads' HO276.out).2.2)); (case side2 => exact (Kd.S_reads' HO276.out).2.1); rintro e w22 ⟨v278, rfl, ho0, hb⟩; refine ⟨_, rfl, ?_⟩; replace HO270 := Aside0.mk (Kd.S_below (by (with_reducible repeat (first | apply Kd.S_alloc | apply Kd.S_drewN | apply Kd.S_drew)); exact HO270.out) hb); replace HO276 := Aside0.mk (Kd.S_below (by (with_reducible repeat (first | apply Kd.S_alloc | apply Kd.S_drewN | apply Kd.S_drew)); exact HO276.out) hb); have HO279 := Aside0.mk (Kd.R_lower (Kd.R_new' ho0 (Kd.R_lt (rk HO273.out))) (below_size (bl HB.out))); replace HO273 := Aside0.mk (Kd.R_elder' (rk HO273.out) (Kd.R_base ho0) hb); replace HB := Aside0.mk (below_step (bl HB.out) hb); (try clear hb); (try clear hb2); (try clear hk); (try clear hi); (try clear ho0); obtain ⟨Ao23, co23, eo23⟩ := Kd.R_slice HO279.out; subst eo23; obtain ⟨Ao24, co24, eo24⟩ := Kd.R_slice HO273.out; subst eo24) | ((with_reducible refine gate_callee (f := 19) rfl ?_); refine goesL_ (some 25) rfl rfl Try.func19 (by kernel_rfl) rfl #[.slice Ao23 t277.length co23, .slice Ao24 t271.length co24] rfl mapd ?_; (with_reducible refine (laws_eqGapS.calls k _ _ t277 _ _ t271 true _ ?side1 ?side2 ?side3 ?side4 A9.out).mono ?_); (case side1 => exact cb ((Kd.R_reads' HO279.out).2.2)); (case side2 => exact (Kd.R_reads' HO279.out).2.1); (case side3 => exact cb ((Kd.R_reads' HO273.out).2.2)); (case side4 => exact (Kd.R_reads' HO273.out).2.1); rintro e w25 ⟨rfl, hb⟩; refine ⟨_, rfl, ?_⟩; replace HO270 := Aside0.mk (Kd.S_below (by (with_reducible repeat (first | apply Kd.S_alloc | apply Kd.S_drewN | apply Kd.S_drew)); exact HO270.out) hb); replace HO273 := Aside0.mk (Kd.R_below (rk HO273.out) hb); replace HO276 := Aside0.mk (Kd.S_below (by (with_reducible repeat (first | apply Kd.S_alloc | apply Kd.S_drewN | apply Kd.S_drew)); exact HO276.out) hb); replace HO279 := Aside0.mk (Kd.R_below (rk HO279.out) hb); replace HB := Aside0.mk (below_step (bl HB.out) hb); (try clear hb); (try clear hb2); (try clear hk); (try clear hi)) | ((with_reducible refine gate_callee (f := 17) rfl ?_); refine goesL_ (some 29) rfl rfl Try.func17 (by kernel_rfl) rfl #[.slice A0 l0.length c0] rfl mapd ?_; (with_reducible refine (laws_toColumnS.calls k _ _ l0 t281 _ ?side1 ?side2 A11.out).mono ?_); (case side1 => exact cb (Kd.C_below HR0.out HB.out)); (case side2 => exact HC0.out); rintro e w26 ⟨v282, rfl, ho0, hb⟩; refine ⟨_, rfl, ?_⟩; replace HO273 := Aside0.mk (Kd.R_below (rk HO273.out) hb); replace HO279 := Aside0.mk (Kd.R_below (rk HO279.out) hb); have HO283 := Aside0.mk (Kd.S_lower (Kd.S_new' (Kd.S_new' ho0 (Kd.S_lt (by (with_reducible repeat (first | apply Kd.S_alloc | apply Kd.S_drewN | apply Kd.S_drew)); exact HO270.out))) (Kd.S_lt (by (with_reducible repeat (first | apply Kd.S_alloc | apply Kd.S_drewN | apply Kd.S_drew)); exact HO276.out))) (below_size (bl HB.out))); replace HO270 := Aside0.mk (Kd.S_elder' (by (with_reducible repeat (first | apply Kd.S_alloc | apply Kd.S_drewN | apply Kd.S_drew)); exact HO270.out) (Kd.S_base ho0) hb); replace HO276 := Aside0.mk (Kd.S_elder' (by (with_reducible repeat (first | apply Kd.S_alloc | apply Kd.S_drewN | apply Kd.S_drew)); exact HO276.out) (Kd.S_base ho0) hb); replace HB := Aside0.mk (below_step (bl HB.out) hb); (try clear hb); (try clear hb2); (try clear hk); (try clear hi); (try clear ho0); obtain ⟨Ao27, co27, eo27⟩ := Kd.S_slice HO283.out; subst eo27) | ((with_reducible refine gate_callee (f := 20) rfl ?_); refine goesL_ (some 30) rfl rfl Try.func20 (by kernel_rfl) rfl #[.slice Ao21 t274.length co21, .slice Ao27 t281.length co27] rfl mapd ?_; (with_reducible refine (laws_eqColumnS.calls k _ _ t274 _ _ t281 true _ ?side1 ?side2 ?side3 ?side4 A12.out).mono ?_); (case side1 => exact cb ((Kd.S_reads' HO276.out).2.2)); (case side2 => exact (Kd.S_reads' HO276.out).2.1); (case side3 => exact cb ((Kd.S_reads' HO283.out).2.2)); (case side4 => exact (Kd.S_reads' HO283.out).2.1); rintro e w28 ⟨rfl, hb⟩; refine ⟨_, rfl, ?_⟩; replace HO270 := Aside0.mk (Kd.S_below (by (with_reducible repeat (first | apply Kd.S_alloc | apply Kd.S_drewN | apply Kd.S_drew)); exact HO270.out) hb); replace HO273 := Aside0.mk (Kd.R_below (rk HO273.out) hb); replace HO276 := Aside0.mk (Kd.S_below (by (with_reducible repeat (first | apply Kd.S_alloc | apply Kd.S_drewN | apply Kd.S_drew)); exact HO276.out) hb); replace HO279 := Aside0.mk (Kd.R_below (rk HO279.out) hb); replace HO283 := Aside0.mk (Kd.S_below (by (with_reducible repeat (first | apply Kd.S_alloc | apply Kd.S_drewN | apply Kd.S_drew)); exact HO283.out) hb); replace HB := Aside0.mk (below_step (bl HB.out) hb); (try clear hb); (try clear hb2); (try clear hk); (try clear hi)) | ((with_reducible refine gate_callee (f := 21) rfl ?_); refine goesL_ (some 34) rfl rfl Try.func21 (by kernel_rfl) rfl #[.slice Ao21 t274.length co21, .int .i64 1] rfl mapd ?_; (first | (with_reducible refine (laws_markColumnS.calls k _ (.slice Ao21 t274.length co21) t274 1 t285 w _ ?side1 (Kd.R_bound (Kd.S_R HO276.out)) A14.out).mono ?_) | (with_reducible refine (laws_markColumnS.calls k _ (.slice Ao21 t274.length co21) t274 1 t285 w _ ?side1 (Kd.R_bound (Kd.S_R (Kd.S_drewN HO276.out _))) A14.out).mono ?_)); (case side1 => repeat (first | (with_reducible first | exact HB.out | apply below_alloc | apply pw_below_drewN | apply below_drew1) | exact HB.out)); rintro e w29 ⟨rfl, hb, hkp⟩; refine ⟨_, rfl, ?_⟩; have n1_ := Aside0.mk (Kd.R_mono (ok' := fun k_ => some k_ ≠ (.slice Ao23 t277.length co23 : Value).ownBlock) (Kd.R_reok rfl (Kd.R_keptB (Kd.R_tight rfl HO273.out) hkp (fun k_ hk_ hs_ => (by first | exact far_types_ HO273.out (by decide) k_ hk_ hs_ | (simp only [and_assoc] at hs_; first | exact hs_.1 hk_ | exact hs_.2.1 hk_ | exact hs_.2.2.1 hk_ | exact hs_.2.2.2.1 hk_ | exact hs_.2.2.2.2.1 hk_ | exact hs_.2.2.2.2.2.1 hk_ | exact hs_.2.2.2.2.2.2.1 hk_ | exact hs_.2.2.2.2.2.2.2.1 hk_ | exact hs_.2.2.2.2.2.2.2.2.1 hk_)))) (fun k_ e_ => HO273.out.1 k_ e_)) (fun k_ hk_ => hk_.2)); have n2_ := Aside0.mk (Kd.R_mono (ok' := fun k_ => some k_ ≠ (.slice Ao24 t271.length co24 : Value).ownBlock) (Kd.R_reok rfl (Kd.R_keptB (Kd.R_tight rfl HO279.out) hkp (fun k_ hk_ hs_ => (by first | exact far_types_ HO279.out (by decide) k_ hk_ hs_ | (simp only [and_assoc] at hs_; first | exact hs_.1 hk_ | exact hs_.2.1 hk_ | exact hs_.2.2.1 hk_ | exact hs_.2.2.2.1 hk_ | exact hs_.2.2.2.2.1 hk_ | exact hs_.2.2.2.2.2.1 hk_ | exact hs_.2.2.2.2.2.2.1 hk_ | exact hs_.2.2.2.2.2.2.2.1 hk_ | exact hs_.2.2.2.2.2.2.2.2.1 hk_)))) (fun k_ e_ => HO279.out.1 k_ e_)) (fun k_ hk_ => hk_.2)); have n4_ := Aside0.mk (hb); clear HO270; clear HO273; clear HO279; clear HO283; clear HB; clear HO276; have HO273 := n1_; have HO279 := n2_; have HB := n4_; clear n1_ n2_ n4_; (try clear hb); (try clear hkp)))
    (try simp only [Act.put, List.setIfInBounds_toArray, List.set_cons_zero, List.set_cons_succ])
    go_cut [42] (fun v42 wc => ∃ (kq : Nat) (x42_14 : Bool), v42 = .bool x42_14 ∧ Aside0 (laws_FnExactBankGaps.j0 kq l0 t271 t277 x42_14 = some r) ∧ Aside0 (kq ≤ k) ∧ Aside0 (Kd.R k50 50 wc w.heap.size (fun k_ => some k_ ≠ ((.slice Ao23 t277.length co23) : Value).ownBlock) (.slice Ao24 t271.length co24) t271) ∧ Aside0 (Kd.R k50 50 wc w.heap.size (fun k_ => some k_ ≠ ((.slice Ao24 t271.length co24) : Value).ownBlock) (.slice Ao23 t277.length co23) t277) ∧ Aside0 (Below w.heap.size w wc))
    case first =>
     have H := HC15.out
     clear HC15
     by_cases c30 : t285 < 0
     ·rw [if_pos c30] at H
      have c30b0 : decide (t285 < 0) = true := decide_eq_true c30
      clear c30
      (first | rw [c30b0] | (simp only [i64_w, i32_w]; rw [c30b0]) | skip)
      have H' := Aside0.mk H
      clear H
      go_wp2
      go_meet
      case rel => exact ⟨_, (true), (by first | rfl | (simp; done) | (simp [*]; done)), H', ⟨by first | omega | exact Nat.le_refl _⟩, ⟨rk HO273.out⟩, ⟨rk HO279.out⟩, ⟨bl HB.out⟩⟩
     ·rw [if_neg c30] at H
      have c30b0 : decide (t285 < 0) = false := decide_eq_false c30
      clear c30
      (first | rw [c30b0] | (simp only [i64_w, i32_w]; rw [c30b0]) | skip)
      replace H := Option.bind_eq_some_iff.mp H
      obtain ⟨t286, A310, H⟩ := H
      try dsimp only at H
      have A31 := Aside0.mk A310
      clear A310
      have H' := Aside0.mk H
      clear H
      go_wp2_with (first | (go_at_call 19; (with_reducible refine (laws_eqGapS.calls k _ _ t277 _ _ t271 t286 _ ?side1 ?side2 ?side3 ?side4 A31.out).mono ?_); (case side1 => exact cb ((Kd.R_reads' HO279.out).2.2)); (case side2 => exact (Kd.R_reads' HO279.out).2.1); (case side3 => exact cb ((Kd.R_reads' HO273.out).2.2)); (case side4 => exact (Kd.R_reads' HO273.out).2.1); rintro e w32 ⟨rfl, hb⟩; have n1_ := Aside0.mk (Kd.R_below (rk HO273.out) hb); have n2_ := Aside0.mk (Kd.R_below (rk HO279.out) hb); have n4_ := Aside0.mk (below_step (bl HB.out) hb); clear HO273; clear HO279; clear HB; have HO273 := n1_; have HO279 := n2_; have HB := n4_; clear n1_ n2_ n4_; (try clear hb); (try clear hb2); (try clear hk); (try clear hi)))
      go_meet
      case rel => exact ⟨_, (!t286), (by first | rfl | (simp; done) | (simp [*]; done)), H', ⟨by first | omega | exact Nat.le_refl _⟩, ⟨rk HO273.out⟩, ⟨rk HO279.out⟩, ⟨bl HB.out⟩⟩
    case rest =>
     clear HC15
     try clear c1
     try clear c2
     try clear p2
     try clear c3
     try clear c3b0
     try clear c10
     try clear c13
     try clear c15
     try clear c16
     try clear c17
     try clear c18
     try clear c19
     try clear c20
     try clear c21
     try clear c30
     try clear c30b0
     obtain ⟨kq, x42_14, rfl, HA, HJ14, HO_4, HO_6, HB⟩ := hcut
     cases kq with
     | zero => exact absurd HA.out (by simp [laws_FnExactBankGaps.j0])
     | succ kj14 =>
      have H := HA.out
      clear HA
      simp only [laws_FnExactBankGaps.j0] at H
      by_cases c33 : x42_14 = true
      ·subst c33
       rw [if_pos rfl] at H
       exact absurd (Option.some.inj H) (by rw [hr_.out]; decide)
      ·replace c33 := Bool.eq_false_iff.mpr c33
       subst c33
       rw [if_neg (show ¬ (false = true) by decide)] at H
       replace H := Option.bind_eq_some_iff.mp H
       obtain ⟨⟨t287, t288⟩, A340, H⟩ := H
       try dsimp only at H
       have A34 := Aside0.mk A340
       clear A340
       replace H := Option.bind_eq_some_iff.mp H
       obtain ⟨t289, A350, H⟩ := H
       try dsimp only at H
       have A35 := Aside0.mk A350
       clear A350
       by_cases c36 : t289 < 0
       ·rw [if_pos c36] at H
        have c36b0 : decide (t289 < 0) = true := decide_eq_true c36
        clear c36
        exact absurd (Option.some.inj H) (by rw [hr_.out]; decide)
       ·rw [if_neg c36] at H
        have c36b0 : decide (t289 < 0) = false := decide_eq_false c36
        clear c36
        by_cases c37 : t289 = t287
        ·rw [if_pos c37] at H
         have c37b0 : (t289 == t287) = true := beq_iff_eq.mpr c37
         have c37b1 : (t289 != t287) = false := bne_eq_false_iff_eq.mpr c37
         clear c37
         replace H := Option.bind_eq_some_iff.mp H
         obtain ⟨t290, A380, H⟩ := H
         try dsimp only at H
         have A38 := Aside0.mk A380
         clear A380
         replace H := Option.bind_eq_some_iff.mp H
         obtain ⟨t293, A390, H⟩ := H
         try dsimp only at H
         have A39 := Aside0.mk A390
         clear A390
         replace H := Option.bind_eq_some_iff.mp H
         obtain ⟨t296, A400, H⟩ := H
         try dsimp only at H
         have A40 := Aside0.mk A400
         clear A400
         by_cases c41 : t296 = true
         ·subst c41
          rw [if_pos rfl] at H
          replace H := Option.bind_eq_some_iff.mp H
          obtain ⟨t297, A420, H⟩ := H
          try dsimp only at H
          have A42 := Aside0.mk A420
          clear A420
          by_cases c43 : t297 < 0
          ·rw [if_pos c43] at H
           have c43b0 : decide (t297 < 0) = true := decide_eq_true c43
           clear c43
           exact absurd (Option.some.inj H) (by rw [hr_.out]; decide)
          ·rw [if_neg c43] at H
           have c43b0 : decide (t297 < 0) = false := decide_eq_false c43
           clear c43
           by_cases c44 : t297 = t287
           ·rw [if_pos c44] at H
            have c44b0 : (t297 == t287) = true := beq_iff_eq.mpr c44
            have c44b1 : (t297 != t287) = false := bne_eq_false_iff_eq.mpr c44
            clear c44
            obtain rfl := Option.some.inj H
            go_wp2_with (first | ((with_reducible refine gate_callee (f := 22) rfl ?_); refine goesL_ (some 45) rfl rfl Try.func22 (by kernel_rfl) rfl #[.slice Ao23 t277.length co23, .int .i64 1] rfl mapd ?_; (with_reducible refine (laws_markGapS.calls kj14 (fun k_ => some k_ = (.slice Ao23 t277.length co23 : Value).ownBlock) (.slice Ao23 t277.length co23) t277 1 t287 t288 w _ ?side1 ?side2 A34.out).mono ?_); (case side1 => repeat (first | (with_reducible first | exact HB.out | apply below_alloc | apply pw_below_drewN | apply below_drew1) | exact HB.out)); (case side2 => exact Kd.R_tight rfl HO_6.out); rintro e w45 ⟨rfl, hy0, hb, hkp⟩; refine ⟨_, rfl, ?_⟩; replace HO_4 := Aside0.mk (Kd.R_mono (ok' := fun k_ => some k_ ≠ (.slice Ao23 t277.length co23 : Value).ownBlock) (Kd.R_keptB (HO_4.out) hkp (fun k_ hk_ hs_ => (hk_) hs_)) (fun k_ hk_ => hk_.1)); replace HO_6 := Aside0.mk (Kd.R_reok rfl hy0 (fun k_ e_ => HO_6.out.1 k_ e_)); replace HB := Aside0.mk (hb); (try clear hb); (try clear hkp); (try clear hy0)) | ((with_reducible refine gate_callee (f := 23) rfl ?_); refine goesL_ (some 48) rfl rfl Try.func23 (by kernel_rfl) rfl #[.slice Ao23 t288.length co23, .int .i64 1] rfl (by (try simp only [List.map_toArray, List.map_cons, List.map_nil]); first | done | (rw [show t288.length = t277.length from (Kd.R_reads' HO_6.out).1.symm] <;> rfl) | rfl | (simp only [List.length_drop, List.length_take]; rfl)) ?_; (with_reducible refine (laws_heldGapS.calls kj14 _ _ t288 1 t289 _ ?side1 ?side2 A35.out).mono ?_); (case side1 => exact cb ((Kd.R_reads' HO_6.out).2.2)); (case side2 => rw [show t288.length = t277.length from (Kd.R_reads' HO_6.out).1.symm]; exact (Kd.R_reads' HO_6.out).2.1); rintro e w' ⟨rfl, ⟨nd, rfl⟩⟩; refine ⟨_, rfl, ?_⟩) | ((with_reducible refine gate_callee (f := 17) rfl ?_); refine goesL_ (some 55) rfl rfl Try.func17 (by kernel_rfl) rfl #[.slice A0 l0.length c0] rfl mapd ?_; (with_reducible refine (laws_toColumnS.calls kj14 _ _ l0 t290 _ ?side1 ?side2 A38.out).mono ?_); (case side1 => exact cb ((Kd.C_below HR0.out (bl HB.out)))); (case side2 => exact HC0.out); rintro e w46 ⟨v291, rfl, ho0, hb⟩; refine ⟨_, rfl, ?_⟩; replace HO_4 := Aside0.mk (Kd.R_below (rk HO_4.out) hb); replace HO_6 := Aside0.mk (Kd.R_below (rk HO_6.out) hb); have HO292 := Aside0.mk (Kd.S_lower ho0 (below_size (bl HB.out))); replace HB := Aside0.mk (below_step (bl HB.out) hb); (try clear hb); (try clear hb2); (try clear hk); (try clear hi); (try clear ho0); obtain ⟨Ao47, co47, eo47⟩ := Kd.S_slice HO292.out; subst eo47) | ((with_reducible refine gate_callee (f := 18) rfl ?_); refine goesL_ (some 56) rfl rfl Try.func18 (by kernel_rfl) rfl #[.slice Ao47 t290.length co47] rfl mapd ?_; (with_reducible refine (impl_BankGaps.calls kj14 _ _ t290 t293 _ ?side1 ?side2 A39.out).mono ?_); (case side1 => exact cb ((Kd.S_reads' HO292.out).2.2)); (case side2 => exact (Kd.S_reads' HO292.out).2.1); rintro e w48 ⟨v294, rfl, ho0, hb⟩; refine ⟨_, rfl, ?_⟩; replace HO292 := Aside0.mk (Kd.S_below (by (with_reducible repeat (first | apply Kd.S_alloc | apply Kd.S_drewN | apply Kd.S_drew)); exact HO292.out) hb); have HO295 := Aside0.mk (Kd.R_lower (Kd.R_new' (Kd.R_new' ho0 (Kd.R_lt (rk HO_4.out))) (Kd.R_lt (rk HO_6.out))) (below_size (bl HB.out))); replace HO_4 := Aside0.mk (Kd.R_elder' (rk HO_4.out) (Kd.R_base ho0) hb); replace HO_6 := Aside0.mk (Kd.R_elder' (rk HO_6.out) (Kd.R_base ho0) hb); replace HB := Aside0.mk (below_step (bl HB.out) hb); (try clear hb); (try clear hb2); (try clear hk); (try clear hi); (try clear ho0); obtain ⟨Ao49, co49, eo49⟩ := Kd.R_slice HO295.out; subst eo49) | ((with_reducible refine gate_callee (f := 19) rfl ?_); refine goesL_ (some 59) rfl rfl Try.func19 (by kernel_rfl) rfl #[.slice Ao49 t293.length co49, .slice Ao24 t271.length co24] rfl mapd ?_; (with_reducible refine (laws_eqGapS.calls kj14 _ _ t293 _ _ t271 true _ ?side1 ?side2 ?side3 ?side4 A40.out).mono ?_); (case side1 => exact cb ((Kd.R_reads' HO295.out).2.2)); (case side2 => exact (Kd.R_reads' HO295.out).2.1); (case side3 => exact cb ((Kd.R_reads' HO_4.out).2.2)); (case side4 => exact (Kd.R_reads' HO_4.out).2.1); rintro e w50 ⟨rfl, hb⟩; refine ⟨_, rfl, ?_⟩; replace HO_4 := Aside0.mk (Kd.R_below (rk HO_4.out) hb); replace HO_6 := Aside0.mk (Kd.R_below (rk HO_6.out) hb); replace HO292 := Aside0.mk (Kd.S_below (by (with_reducible repeat (first | apply Kd.S_alloc | apply Kd.S_drewN | apply Kd.S_drew)); exact HO292.out) hb); replace HO295 := Aside0.mk (Kd.R_below (rk HO295.out) hb); replace HB := Aside0.mk (below_step (bl HB.out) hb); (try clear hb); (try clear hb2); (try clear hk); (try clear hi)) | ((with_reducible refine gate_callee (f := 23) rfl ?_); refine goesL_ (some 63) rfl rfl Try.func23 (by kernel_rfl) rfl #[.slice Ao23 t288.length co23, .int .i64 1] rfl (by (try simp only [List.map_toArray, List.map_cons, List.map_nil]); first | done | (rw [show t288.length = t277.length from (Kd.R_reads' HO_6.out).1.symm] <;> rfl) | rfl | (simp only [List.length_drop, List.length_take]; rfl)) ?_; (with_reducible refine (laws_heldGapS.calls kj14 _ _ t288 1 t297 _ ?side1 ?side2 A42.out).mono ?_); (case side1 => exact cb ((Kd.R_reads' HO_6.out).2.2)); (case side2 => rw [show t288.length = t277.length from (Kd.R_reads' HO_6.out).1.symm]; exact (Kd.R_reads' HO_6.out).2.1); rintro e w' ⟨rfl, ⟨nd, rfl⟩⟩; refine ⟨_, rfl, ?_⟩))
            go_ret
            exact ⟨by first | rfl | (simp [errW_none, errW_some] <;> rfl) | (simp [*, errW_none, errW_some] <;> rfl), bl HB.out⟩
           ·rw [if_neg c44] at H
            have c44b0 : (t297 == t287) = false := beq_eq_false_iff_ne.mpr c44
            have c44b1 : (t297 != t287) = true := bne_iff_ne.mpr c44
            exact absurd (Option.some.inj H) (by rw [hr_.out]; decide)
         ·replace c41 := Bool.eq_false_iff.mpr c41
          subst c41
          rw [if_neg (show ¬ (false = true) by decide)] at H
          exact absurd (Option.some.inj H) (by rw [hr_.out]; decide)
        ·rw [if_neg c37] at H
         have c37b0 : (t289 == t287) = false := beq_eq_false_iff_ne.mpr c37
         have c37b1 : (t289 != t287) = true := bne_iff_ne.mpr c37
         exact absurd (Option.some.inj H) (by rw [hr_.out]; decide)
   ·replace c13 := Bool.eq_false_iff.mpr c13
    subst c13
    rw [if_neg (show ¬ (false = true) by decide)] at H
    exact absurd (Option.some.inj H) (by rw [hr_.out]; decide)
  ·replace c10 := Bool.eq_false_iff.mpr c10
   subst c10
   rw [if_neg (show ¬ (false = true) by decide)] at H
   exact absurd (Option.some.inj H) (by rw [hr_.out]; decide)
end Go.Proofs.Ytbpjidekjogfeaa.A

namespace Go.Proofs.Ytbpjidekjogfeaa.A
open Go.ChangeShapes Go.WideShapes Go.ChangeAt Go.RowKit Go.Proofs.YtbpjidekjogfeaaW.PrintWords Go.Proofs.YtbpjidekjogfeaaW.PrintLast
set_option linter.unusedVariables false
set_option linter.unusedSimpArgs false
def Opn {α : Type} (P : Program) (t : TypeId) (d : Kd α) (ok : α → Prop) : Prop :=
 ∀ {H : Type} {enc : TypeId × Value → H} (w : World) (fuel : Nat) (cs : List Value) (x : DataW H × List MemPlace),
  DataW.trod enc P w 0 (fun _ => true) true fuel t cs = some x → ∃ a, d.K w a cs ∧ ok a
theorem opn_int {P : Program} {t : TypeId} {k : IntKind} (ht : P.underlying t = some (.int k)) : Opn P t (Kd.int k) (fun a => (Lit.int k a).wf = true) := by
 intro H enc w fuel cs x h
 obtain ⟨n, rfl, _, hw⟩ := DataW.trod_int ht h
 exact ⟨n, rfl, hw⟩
theorem opn_bool {P : Program} {t : TypeId} (ht : P.underlying t = some .bool) : Opn P t Kd.bool (fun _ => True) := by
 intro H enc w fuel cs x h
 obtain ⟨b, rfl, _⟩ := DataW.trod_bool ht h
 exact ⟨b, rfl, trivial⟩
theorem add_add_ (a : Addr) (i j : Nat) : (a.add i).add j = a.add (i + j) := by
 unfold Addr.add
 by_cases hi : i = 0
 ·subst hi; simp
 ·by_cases hj : j = 0
  ·subst hj; simp
  ·rw [if_neg hi, if_neg hj, if_neg (by omega)]
   simp; omega
theorem cells_at {w : World} {base : Nat} {a : Addr} {n : Nat} {cs : List Value} (h : w.cells? base a n = some cs) : cs.length = n ∧ ∀ i u, cs[i]? = some u → w.cell? (a.add i) = some u := by
 unfold World.cells? at h
 split at h
 ·have l := mapM_some_length h
  simp only [List.length_range] at l
  refine ⟨l, fun i u hu => ?_⟩
  have hi := (List.getElem?_eq_some_iff.1 hu).1
  have := mapM_some_get h i i (by simp [show i < n by omega])
  rw [this]; exact hu
 ·cases h
theorem choose_list {α : Type} {Q : Nat → α → Prop} (m : Nat) (h : ∀ i, i < m → ∃ v, Q i v) : ∃ l : List α, l.length = m ∧ ∀ i v, l[i]? = some v → Q i v := by
 induction m with
 | zero => exact ⟨[], rfl, fun i v hv => by simp at hv⟩
 | succ m ih =>
  obtain ⟨l, hl, hq⟩ := ih (fun i hi => h i (by omega))
  obtain ⟨v, hv⟩ := h m (by omega)
  refine ⟨l ++ [v], by simp [hl], fun i u hu => ?_⟩
  rcases Nat.lt_trichotomy i m with hi | hi | hi
  ·rw [List.getElem?_append_left (by omega)] at hu
   exact hq i u hu
  ·subst hi
   rw [List.getElem?_append_right (by omega), hl, Nat.sub_self] at hu
   have : v = u := by simpa using hu
   exact this ▸ hv
  ·rw [List.getElem?_eq_none (by simp; omega)] at hu
   cases hu
theorem opn_slice {α : Type} {P : Program} {t e : TypeId} {d : Kd α} {ok : α → Prop} (ht : P.underlying t = some (.slice e)) (hs : P.cellsOf e = d.sz) (ho : Opn P e d ok) :
  Opn P t (Kd.slice e d) (fun l => l.length ≤ maxLen ∧ ∀ x ∈ l, ok x) := by
 intro H enc w fuel cs x h
 rcases DataW.trod_slice ht h with ⟨rfl, _⟩ | ⟨a, len, cap, elems, rest, n, _, rfl, _, _, hl, hm, hlen, hel, _, _⟩
 ·exact ⟨[], ⟨none, 0, rfl, Nat.le_refl _, rfl, Nat.zero_le _, fun h => absurd h (by simp)⟩, by simp, by simp⟩
 ·have each : ∀ i, i < len → ∃ v, ok v ∧ ∃ c, c.length = d.sz ∧ d.K w v c ∧ ∀ j u, c[j]? = some u → w.cell? (a.add (i * d.sz + j)) = some u := by
   intro i hi
   have h1 := hel i hi
   rw [List.getElem?_eq_getElem (by omega)] at h1
   obtain ⟨c, hc, hr⟩ := Option.bind_eq_some_iff.1 h1
   obtain ⟨v, hk, hv⟩ := ho w n c _ hr
   obtain ⟨_, hcell⟩ := cells_at hc
   refine ⟨v, hv, c, d.K_len hk, hk, fun j u hu => ?_⟩
   have := hcell j u hu
   rw [hs, add_add_] at this
   exact this
  obtain ⟨l, hll, hq⟩ := choose_list len each
  subst hll
  have hm' : l.length ≤ maxLen := Nat.le_trans hl hm
  refine ⟨l, ⟨some a, cap, rfl, hl, rfl, by unfold maxLen at hm'; omega, fun _ => ⟨a, rfl, fun j p hp => ?_⟩⟩, hm', fun v hv => ?_⟩
  ·obtain ⟨_, c, h1, h2, h3⟩ := hq j p hp
   exact ⟨c, h1, h2, h3⟩
  ·obtain ⟨i, hi, rfl⟩ := List.getElem_of_mem hv
   exact (hq i _ (List.getElem?_eq_getElem hi)).1
theorem opn_top {α : Type} {H : Type} {enc : TypeId × Value → H} {P : Program} {w : World} {t : TypeId} {d : Kd α} {ok : α → Prop} {v : Value} {x : DataW H} {ps : List MemPlace} (ho : Opn P t d ok)
  (h : DataW.Trod enc P w 0 (fun _ => true) true t v x ps) : ∃ a, d.K w a v.cells.toList ∧ ok a := by
 obtain ⟨fuel, hf⟩ := h
 exact ho w fuel _ _ hf
theorem slice_eq {a b : Option Addr} {l m c q : Nat} (h : (Value.slice a l c).cells.toList = [.slice b m q]) : a = b ∧ l = m ∧ c = q := by
 simpa [Value.cells] using h
abbrev ok3 (a : Int) : Prop := (Lit.int .i64 a).wf = true
abbrev ok38 (l : List Int) : Prop := l.length ≤ maxLen ∧ ∀ x ∈ l, ok3 x
abbrev ok4 (_ : Bool) : Prop := True
abbrev ok123 (x : S123) : Prop := ok3 x.f0 ∧ ok3 x.f1 ∧ ok3 x.f2 ∧ ok4 x.f3
abbrev ok56 (l : List (S123)) : Prop := l.length ≤ maxLen ∧ ∀ x ∈ l, ok123 x
abbrev ok58 (x : S58) : Prop := ok3 x.f0 ∧ ok38 x.f1 ∧ ok56 x.f2
abbrev ok22 (l : List (S58)) : Prop := l.length ≤ maxLen ∧ ∀ x ∈ l, ok58 x
theorem op3 : Opn Try.prog 3 (Kd.int .i64) ok3 := opn_int Try.underlying3
theorem op38 : Opn Try.prog 38 (Kd.slice 3 (Kd.int .i64)) ok38 := opn_slice Try.underlying38 (by kernel_rfl) op3
theorem op4 : Opn Try.prog 4 Kd.bool ok4 := opn_bool Try.underlying4
set_option maxRecDepth 100000 in
theorem op123 : Opn Try.prog 123 k123 ok123 := by
 intro H enc w fuel cs x h
 obtain ⟨xs, n, _, _, hl, hlen, hf⟩ := DataW.trod_struct Try.underlying123 h
 have hl' : cs.length = 4 := hl.trans (by kernel_rfl)
 match cs, hl' with
 | [c0, c1, c2, c3], _ =>
  match xs, hlen with
  | [y0, y1, y2, y3], _ =>
  obtain ⟨a0, q0, z0⟩ := op3 (H := H) (enc := enc) w n [c0] y0 (hf 0 _ rfl)
  obtain ⟨a1, q1, z1⟩ := op3 (H := H) (enc := enc) w n [c1] y1 (hf 1 _ rfl)
  obtain ⟨a2, q2, z2⟩ := op3 (H := H) (enc := enc) w n [c2] y2 (hf 2 _ rfl)
  obtain ⟨a3, q3, z3⟩ := op4 (H := H) (enc := enc) w n [c3] y3 (hf 3 _ rfl)
  exact ⟨⟨a0, a1, a2, a3⟩, ⟨[c0], [c1, c2, c3], rfl, q0, ⟨[c1], [c2, c3], rfl, q1, ⟨[c2], [c3], rfl, q2, q3⟩⟩⟩, ⟨z0, z1, z2, z3⟩⟩
theorem op56 : Opn Try.prog 56 (Kd.slice 123 k123) ok56 := opn_slice Try.underlying56 (by kernel_rfl) op123
set_option maxRecDepth 100000 in
theorem op58 : Opn Try.prog 58 k58 ok58 := by
 intro H enc w fuel cs x h
 obtain ⟨xs, n, _, _, hl, hlen, hf⟩ := DataW.trod_struct Try.underlying58 h
 have hl' : cs.length = 3 := hl.trans (by kernel_rfl)
 match cs, hl' with
 | [c0, c1, c2], _ =>
  match xs, hlen with
  | [y0, y1, y2], _ =>
  obtain ⟨a0, q0, z0⟩ := op3 (H := H) (enc := enc) w n [c0] y0 (hf 0 _ rfl)
  obtain ⟨a1, q1, z1⟩ := op38 (H := H) (enc := enc) w n [c1] y1 (hf 1 _ rfl)
  obtain ⟨a2, q2, z2⟩ := op56 (H := H) (enc := enc) w n [c2] y2 (hf 2 _ rfl)
  exact ⟨⟨a0, a1, a2⟩, ⟨[c0], [c1, c2], rfl, q0, ⟨[c1], [c2], rfl, q1, q2⟩⟩, ⟨z0, z1, z2⟩⟩
theorem op22 : Opn Try.prog 22 (Kd.slice 58 k58) ok22 := opn_slice Try.underlying22 (by kernel_rfl) op58
end Go.Proofs.Ytbpjidekjogfeaa.A

namespace Go.Proofs.Ytbpjidekjogfeaa.A
open Go.RowKit Go.Proofs.YtbpjidekjogfeaaW.PrintWords Go.Proofs.YtbpjidekjogfeaaW.PrintLast Go.Proofs.YtbpjidekjogfeaaW.PrintMore
set_option linter.unusedVariables false
set_option linter.unusedSimpArgs false
def Ev {α : Type} (F : Nat → Option α) (r : α) : Prop := ∃ K, ∀ k, K ≤ k → F k = some r
theorem Ev.mk {α : Type} {F : Nat → Option α} {r : α} (K : Nat) (h : ∀ k, K < k → F k = some r) : Ev F r := ⟨K + 1, fun k hk => h k hk⟩
theorem Ev.get {α : Type} {F : Nat → Option α} {r : α} (h : Ev F r) : ∃ k, F k = some r := by
 obtain ⟨K, h⟩ := h
 exact ⟨K, h K (Nat.le_refl _)⟩
theorem Ev.const {α : Type} {o : Option α} {r : α} (h : o = some r) : Ev (fun _ => o) r := ⟨0, fun _ _ => h⟩
theorem Ev.ret {α : Type} (r : α) : Ev (fun _ => some r) r := ⟨0, fun _ _ => rfl⟩
theorem Ev.bind {α β : Type} {F : Nat → Option α} {G : Nat → α → Option β} {a : α} {b : β} (h1 : Ev F a) (h2 : Ev (fun k => G k a) b) : Ev (fun k => (F k).bind (G k)) b := by
 obtain ⟨K1, h1⟩ := h1
 obtain ⟨K2, h2⟩ := h2
 refine ⟨max K1 K2, fun k hk => ?_⟩
 show (F k).bind (G k) = some b
 rw [h1 k (by omega)]
 exact h2 k (by omega)
theorem Ev.pos {α : Type} {c : Prop} [Decidable c] {A B : Nat → Option α} {r : α} (h : c) (hA : Ev A r) : Ev (fun k => if c then A k else B k) r := by
 obtain ⟨K, hA⟩ := hA
 exact ⟨K, fun k hk => by show (if c then A k else B k) = some r; rw [if_pos h]; exact hA k hk⟩
theorem Ev.neg {α : Type} {c : Prop} [Decidable c] {A B : Nat → Option α} {r : α} (h : ¬ c) (hB : Ev B r) : Ev (fun k => if c then A k else B k) r := by
 obtain ⟨K, hB⟩ := hB
 exact ⟨K, fun k hk => by show (if c then A k else B k) = some r; rw [if_neg h]; exact hB k hk⟩
theorem Ev.ite {α : Type} {c : Prop} [Decidable c] {A B : Nat → Option α} {a b : α} (hA : c → Ev A a) (hB : ¬ c → Ev B b) : Ev (fun k => if c then A k else B k) (if c then a else b) := by
 by_cases h : c
 ·rw [if_pos h]; exact Ev.pos h (hA h)
 ·rw [if_neg h]; exact Ev.neg h (hB h)
theorem Ev.succ {α : Type} {F : Nat → Option α} {r : α} (h : Ev (fun k => F (k + 1)) r) : Ev F r := by
 obtain ⟨K, h⟩ := h
 refine ⟨K + 1, fun k hk => ?_⟩
 obtain ⟨m, rfl⟩ : ∃ m, k = m + 1 := ⟨k - 1, by omega⟩
 exact h m (by omega)
theorem Ev.of_eq {α : Type} {F G : Nat → Option α} {r : α} (h : Ev F r) (e : ∀ k, G k = F k) : Ev G r := by
 obtain ⟨K, h⟩ := h
 exact ⟨K, fun k hk => (e k).trans (h k hk)⟩
theorem Ev.to {α : Type} {F : Nat → Option α} {r s : α} (h : Ev F r) (e : r = s) : Ev F s := e ▸ h
theorem getD_gen {α : Type} {l : List α} {i : Nat} (d : α) (h : i < l.length) : l.getD i d = l[i] := by
 rw [List.getD_eq_getElem?_getD, List.getElem?_eq_getElem h]; rfl
theorem wsucc (i : Nat) (h : i < 9223372036854775807) : wrap64 ((i : Int) + 1) = ((i + 1 : Nat) : Int) := by unfold wrap64; omega
theorem wpred (i : Nat) (h : 0 < i) (h2 : i ≤ 9223372036854775807) : wrap64 ((i : Int) - 1) = ((i - 1 : Nat) : Int) := by unfold wrap64; omega
theorem wid (x : Int) (h : -9223372036854775808 ≤ x) (h2 : x ≤ 9223372036854775807) : wrap64 x = x := by unfold wrap64; omega
theorem all_loop {L : Nat → Int → Option Bool} {n : Nat} {P : Nat → Bool} (h : ∀ k i, i < n → L (k + 1) (i : Int) = if P i = true then L k ((i + 1 : Nat) : Int) else some false)
  (he : ∀ k, L (k + 1) (n : Int) = some true) (d : Nat) : ∀ k i, i + d = n → d < k → L k (i : Int) = some ((List.range' i d).all P) := by
 induction d with
 | zero =>
  intro k i hi hk
  obtain ⟨k, rfl⟩ : ∃ m, k = m + 1 := ⟨k - 1, by omega⟩
  obtain rfl : i = n := by omega
  rw [he]; rfl
 | succ d ih =>
  intro k i hi hk
  obtain ⟨k, rfl⟩ : ∃ m, k = m + 1 := ⟨k - 1, by omega⟩
  rw [h k i (by omega), List.range'_succ, List.all_cons]
  by_cases hp : P i = true
  ·rw [if_pos hp, ih k (i + 1) (by omega) (by omega), hp, Bool.true_and]
  ·rw [if_neg hp]
   have : P i = false := by simpa using hp
   rw [this, Bool.false_and]
theorem map_loop {α β : Type} {L : Nat → List β → Int → Option (List β)} {xs : List α} {g : α → β} (d0 : α)
  (h : ∀ k acc (i : Nat), i < xs.length → acc.length = xs.length → L (k + 1) acc (i : Int) = L k (acc.set i (g (xs.getD i d0))) ((i + 1 : Nat) : Int))
  (he : ∀ k acc, L (k + 1) acc (xs.length : Int) = some acc) (d : Nat) :
  ∀ k acc i, i + d = xs.length → d < k → acc.length = xs.length → (∀ j, j < i → acc[j]? = (xs.map g)[j]?) → L k acc (i : Int) = some (xs.map g) := by
 induction d with
 | zero =>
  intro k acc i hi hk hl hp
  obtain ⟨k, rfl⟩ : ∃ m, k = m + 1 := ⟨k - 1, by omega⟩
  obtain rfl : i = xs.length := by omega
  rw [he]
  congr 1
  apply List.ext_getElem?
  intro j
  by_cases hj : j < xs.length
  ·exact hp j hj
  ·rw [List.getElem?_eq_none (by omega), List.getElem?_eq_none (by simp; omega)]
 | succ d ih =>
  intro k acc i hi hk hl hp
  obtain ⟨k, rfl⟩ : ∃ m, k = m + 1 := ⟨k - 1, by omega⟩
  rw [h k acc i (by omega) hl]
  refine ih k _ (i + 1) (by omega) (by omega) (by simp [hl]) (fun j hj => ?_)
  by_cases e : i = j
  ·subst e
   rw [List.getElem?_set_self (by omega), List.getElem?_map, List.getElem?_eq_getElem (show i < xs.length by omega), List.getD_eq_getElem?_getD, List.getElem?_eq_getElem (show i < xs.length by omega)]
   rfl
  ·rw [List.getElem?_set_ne e]
   exact hp j (by omega)
theorem in_eq (a b c : Int) : spec_l01In.f a b c = some (decide (b ≤ a ∧ a ≤ c)) := by
 unfold spec_l01In.f
 split
 ·congr 1; rw [decide_eq_decide]; omega
 ·congr 1; exact (decide_eq_false (by omega)).symm
def boxS : List S98 → Int → List Int → Option Int
 | [], low, _ => some low
 | b :: bs, low, ps => if b.f0 = low ∧ (1 ≤ b.f1 ∧ b.f1 ≤ 24) ∧ (0 ≤ b.f2 ∧ b.f2 ≤ 999) ∧ ¬ (0 < b.f2 ∧ b.f2 ∈ ps) ∧ low + b.f1 ≤ 24 then boxS bs (low + b.f1) (b.f2 :: ps) else none
def boxesS (h : Int) (bx : List S98) (o : Option Int) : Bool := match o with | none => false | some low => decide (bx ≠ []) && decide (low = h)
theorem boxes_in (h : Int) (fx : List Int) (bx : List S98) (at_ : Int) (i : Nat) (hi : i < bx.length) (hi2 : i ≤ 24) (b : S98) (P : Prop) [Decidable P] (hP : P ↔ (0 < b.f2 ∧ ∃ j, j < i ∧ (bx.getD j z98).f2 = b.f2)) (d : Nat) :
  ∀ (k j : Nat), j + d = i → d < k → (∀ m, m < j → 0 < b.f2 → (bx.getD m z98).f2 ≠ b.f2) → spec_l02Boxes.l1 k at_ (i : Int) (j : Int) h fx bx b.f0 b.f1 b.f2 b.f3 = if P then some false else (if (wrap64 (at_ + b.f1)) > 24 then (some false) else (spec_l02Boxes.l0 (k - d - 1) (wrap64 (at_ + b.f1)) ((i + 1 : Nat) : Int) h fx bx)) := by
 induction d with
 | zero =>
  intro k j hj hk hn
  obtain ⟨k, rfl⟩ : ∃ m, k = m + 1 := ⟨k - 1, by omega⟩
  simp only [spec_l02Boxes.l1]
  have hnp : ¬ P := fun hp => by obtain ⟨h0, m, hm, e⟩ := hP.mp hp; exact hn m (by omega) h0 e
  rw [if_neg (by omega), if_neg hnp, wsucc i (by omega)]
  rfl
 | succ d ih =>
  intro k j hj hk hn
  obtain ⟨k, rfl⟩ : ∃ m, k = m + 1 := ⟨k - 1, by omega⟩
  simp only [spec_l02Boxes.l1]
  have er : rd_T98 bx (j : Int) = bx.getD j z98 := rfl
  rw [if_pos (by omega), er, wsucc j (by omega)]
  by_cases c0 : b.f2 > 0
  ·rw [if_pos c0, if_pos (by omega), if_pos (by omega)]
   by_cases c1 : (bx.getD j z98).f2 = b.f2
   ·rw [if_pos c1, if_pos (hP.mpr ⟨c0, j, by omega, c1⟩)]
   ·rw [if_neg c1, ih k (j + 1) (by omega) (by omega) (fun m hm h0 => by
     by_cases e : m = j
     ·subst e; exact c1
     ·exact hn m (by omega) h0), show k + 1 - (d + 1) - 1 = k - d - 1 by omega]
  ·rw [if_neg c0, ih k (j + 1) (by omega) (by omega) (fun m hm h0 => absurd h0 c0), show k + 1 - (d + 1) - 1 = k - d - 1 by omega]
theorem drop_cons {α : Type} (l : List α) (d : α) (i : Nat) (hi : i < l.length) : l.drop i = l.getD i d :: l.drop (i + 1) := by
 rw [List.drop_eq_getElem_cons hi, getD_gen d hi]
theorem boxes_loop (h : Int) (fx : List Int) (bx : List S98) (hl : bx.length ≤ 140737488351232) : ∀ (d k i : Nat) (at_ : Int) (ps : List Int), (24 - at_).toNat = d → 0 ≤ at_ → at_ ≤ 24 → (i : Int) ≤ at_ → i ≤ bx.length → (d + 2) * 40 < k →
  (∀ x, x ∈ ps ↔ ∃ j, j < i ∧ (bx.getD j z98).f2 = x) → spec_l02Boxes.l0 k at_ (i : Int) h fx bx = some (boxesS h bx (boxS (bx.drop i) at_ ps)) := by
 intro d
 induction d using Nat.strongRecOn with
 | _ d ih =>
 intro k i at_ ps hd h0 h1 hi hil hk hps
 obtain ⟨k, rfl⟩ : ∃ m, k = m + 2 := ⟨k - 2, by omega⟩
 simp only [spec_l02Boxes.l0]
 by_cases c : i < bx.length
 ·have er : rd_T98 bx (i : Int) = bx.getD i z98 := rfl
  rw [if_pos (by omega), if_pos (by omega), drop_cons bx z98 i c, er]
  simp only [in_eq, Option.bind_some, boxS]
  generalize hb : bx.getD i z98 = b
  by_cases c0 : b.f0 = at_
  ·rw [if_pos c0]
   by_cases c1 : 1 ≤ b.f1 ∧ b.f1 ≤ 24
   ·rw [if_pos (decide_eq_true c1)]
    by_cases c2 : 0 ≤ b.f2 ∧ b.f2 ≤ 999
    ·simp only [decide_eq_true c2, spec_l02Boxes.j1, Bool.not_true]
     rw [if_neg (by simp)]
     have hin := boxes_in h fx bx at_ i c (by omega) b (0 < b.f2 ∧ b.f2 ∈ ps) (by rw [hps]) i k 0 (by omega) (by omega) (fun m hm => by omega)
     refine hin.trans ?_
     by_cases c3 : 0 < b.f2 ∧ b.f2 ∈ ps
     ·rw [if_pos c3, if_neg (fun h => h.2.2.2.1 c3)]; rfl
     ·rw [if_neg c3, wid (at_ + b.f1) (by omega) (by omega)]
      by_cases c4 : at_ + b.f1 > 24
      ·rw [if_pos c4, if_neg (fun h => by have := h.2.2.2.2; omega)]; rfl
      ·rw [if_neg c4, if_pos ⟨c0, c1, c2, c3, by omega⟩]
       refine ih (24 - (at_ + b.f1)).toNat (by omega) _ (i + 1) (at_ + b.f1) (b.f2 :: ps) rfl (by omega) (by omega) (by omega) (by omega) (by omega) (fun x => ?_)
       rw [List.mem_cons, hps]
       constructor
       ·rintro (rfl | ⟨j, hj, e⟩)
        ·exact ⟨i, by omega, by rw [hb]⟩
        ·exact ⟨j, by omega, e⟩
       ·rintro ⟨j, hj, e⟩
        by_cases ej : j = i
        ·subst ej; left; rw [← e, hb]
        ·right; exact ⟨j, by omega, e⟩
    ·simp only [decide_eq_false c2, spec_l02Boxes.j1, Bool.not_false]
     rw [if_pos trivial, if_neg (fun h => c2 h.2.2.1)]; rfl
   ·rw [if_neg (by simpa using c1)]
    simp only [spec_l02Boxes.j1]
    rw [if_pos trivial, if_neg (fun h => c1 h.2.1)]; rfl
  ·rw [if_neg c0]
   simp only [spec_l02Boxes.j1]
   rw [if_pos trivial, if_neg (fun h => c0 h.1)]; rfl
 ·rw [if_neg (by omega), List.drop_eq_nil_of_le (by omega)]
  simp only [boxS, boxesS]
  by_cases c0 : (bx.length : Int) > 0
  ·have hne : bx ≠ [] := by intro e; rw [e] at c0; simp at c0
   rw [if_pos c0, decide_eq_true hne, Bool.true_and]
   congr 1
  ·have hne : ¬ bx ≠ [] := by intro e; exact e (List.length_eq_zero_iff.mp (by omega))
   rw [if_neg c0, decide_eq_false hne, Bool.false_and]
theorem boxes_eq (h : Int) (fx : List Int) (bx : List S98) (hl : bx.length ≤ 140737488351232) (k : Nat) (hk : 1100 < k) : spec_l02Boxes.f k h fx bx = some (boxesS h bx (boxS bx 0 [])) := by
 unfold spec_l02Boxes.f
 have := boxes_loop h fx bx hl 24 k 0 0 [] (by omega) (by omega) (by omega) (by omega) (by omega) (by omega) (by simp)
 exact this
theorem boxS_le : ∀ (bs : List S98) (low : Int) (ps : List Int) (e : Int), boxS bs low ps = some e → low ≤ e ∧ (bs.length : Int) ≤ e - low ∧ (low ≤ 24 → e ≤ 24)
 | [], low, ps, e, h => by simp [boxS] at h; subst h; exact ⟨by omega, by simp, id⟩
 | b :: bs, low, ps, e, h => by
  simp only [boxS] at h
  split at h
  ·next hc =>
   obtain ⟨h1, h2, h3⟩ := boxS_le bs _ _ _ h
   exact ⟨by omega, by simp; omega, fun _ => h3 (by omega)⟩
  ·simp at h
theorem boxP_S (h : Int) (hh : h ≤ 24) : ∀ (bs : List S98) (low : Int) (ls ps : List Int) (e : Int) (ls' : List Int), 0 ≤ low → boxP h bs low ls ps = some (e, ls') → boxS bs low ps = some e ∧ ∀ f, f ∈ ls' ↔ f ∈ ls ∨ f ∈ bs.map (fun b => b.f0)
 | [], low, ls, ps, e, ls', h0, hb => by
  simp only [boxP, Option.some.injEq, Prod.mk.injEq] at hb
  obtain ⟨rfl, rfl⟩ := hb
  exact ⟨rfl, fun f => by simp⟩
 | b :: bs, low, ls, ps, e, ls', h0, hb => by
  simp only [boxP] at hb
  split at hb
  ·next hc =>
   obtain ⟨h1, h2⟩ := boxP_S h hh bs _ _ _ _ _ (by omega) hb
   refine ⟨?_, fun f => ?_⟩
   ·simp only [boxS]
    rw [if_pos ⟨hc.1, ⟨hc.2.1.1, by omega⟩, hc.2.2.1, hc.2.2.2, by omega⟩]
    exact h1
   ·rw [h2 f, List.mem_cons, List.map_cons, List.mem_cons]
    constructor
    ·rintro ((h | h) | h)
     ·exact Or.inr (Or.inl h)
     ·exact Or.inl h
     ·exact Or.inr (Or.inr h)
    ·rintro (h | h | h)
     ·exact Or.inl (Or.inr h)
     ·exact Or.inl (Or.inl h)
     ·exact Or.inr h
  ·simp at hb
theorem boxS_P (h : Int) : ∀ (bs : List S98) (low : Int) (ls ps : List Int), boxS bs low ps = some h → ∃ ls', boxP h bs low ls ps = some (h, ls')
 | [], low, ls, ps, hb => by
  simp only [boxS, Option.some.injEq] at hb
  subst hb
  exact ⟨ls, rfl⟩
 | b :: bs, low, ls, ps, hb => by
  simp only [boxS] at hb
  split at hb
  ·next hc =>
   have hle := (boxS_le bs _ _ _ hb).1
   obtain ⟨ls', h1⟩ := boxS_P h bs _ (b.f0 :: ls) _ hb
   refine ⟨ls', ?_⟩
   simp only [boxP]
   rw [if_pos ⟨hc.1, ⟨hc.2.1.1, by omega⟩, hc.2.2.1, hc.2.2.2.1⟩]
   exact h1
  ·simp at hb
theorem colS_eq (h : Int) (fx : List Int) (bx : List S98) : (decide (1 ≤ h ∧ h ≤ 24) && (boxesS h bx (boxS bx 0 []) && (fixP h none fx && fx.all (fun f => decide (f ∈ bx.map (fun b => b.f0)))))) = colP h fx bx := by
 unfold colP
 by_cases hh : 1 ≤ h ∧ h ≤ 24
 ·rw [decide_eq_true hh, Bool.true_and, Bool.true_and]
  cases hP : boxP h bx 0 [] [] with
  | none =>
   have hf : boxesS h bx (boxS bx 0 []) = false := by
    cases hS : boxS bx 0 [] with
    | none => rfl
    | some e =>
     by_cases c : e = h
     ·subst c
      obtain ⟨ls', hl⟩ := boxS_P e bx 0 [] [] hS
      rw [hl] at hP; simp at hP
     ·simp [boxesS, c]
   rw [hf]; simp
  | some z =>
   obtain ⟨e, ls⟩ := z
   obtain ⟨h1, h2⟩ := boxP_S h hh.2 bx 0 [] [] e ls (by omega) hP
   have ha : fx.all (fun f => decide (f ∈ bx.map (fun b => b.f0))) = fx.all (fun f => decide (f ∈ ls)) := by
    congr 1
    funext f
    rw [decide_eq_decide, h2 f]
    simp
   rw [h1, ha]
   simp only [boxesS]
   cases decide (bx ≠ []) <;> cases decide (e = h) <;> cases fixP h none fx <;> cases fx.all (fun f => decide (f ∈ ls)) <;> rfl
 ·rw [decide_eq_false hh, Bool.false_and, Bool.false_and, Bool.false_and, Bool.false_and]
def fixS (h : Int) (L : List Int) : Option Int → List Int → Bool
 | _, [] => true
 | p, f :: fs => decide (1 ≤ f ∧ f ≤ h - 1) && (match p with | none => true | some q => decide (q < f)) && decide (f ∈ L) && fixS h L (some f) fs
theorem fixS_eq (h : Int) (L : List Int) : ∀ (fs : List Int) (p : Option Int), fixS h L p fs = (fixP h p fs && fs.all (fun f => decide (f ∈ L)))
 | [], p => rfl
 | f :: fs, p => by
  simp only [fixS, fixP, List.all_cons]
  rw [fixS_eq h L fs (some f)]
  ac_rfl
theorem drop_step {α : Type} {l : List α} {i : Nat} {b : α} {rest : List α} (d : α) (h : l.drop i = b :: rest) : i < l.length ∧ l.getD i d = b ∧ l.drop (i + 1) = rest := by
 have hi : i < l.length := by
  apply Classical.byContradiction
  intro c
  rw [List.drop_eq_nil_of_le (by omega)] at h
  cases h
 have h2 := drop_cons l d i hi
 rw [h] at h2
 injection h2 with h3 h4
 exact ⟨hi, h3.symm, h4.symm⟩
theorem drop_end {α : Type} {l : List α} {i : Nat} (h : l.drop i = []) (hi : i ≤ l.length) : i = l.length := by
 have := List.drop_eq_nil_iff.mp h
 omega
theorem found_ev (h : Int) (fx : List Int) (bx : List S98) (i : Nat) (hi : i < fx.length) (hi2 : i ≤ 140737488351232) (hl : bx.length ≤ 24) (s : Bool) (hs : Ev (fun k => spec_ColumnOk.l0 k ((i + 1 : Nat) : Int) h fx bx) s) :
  ∀ (rest : List S98) (j : Nat) (b : Bool), bx.drop j = rest → j ≤ bx.length → Ev (fun k => spec_ColumnOk.l1 k (i : Int) b (j : Int) h fx bx) (if (b || rest.any (fun x => decide (x.f0 = fx.getD i 0))) = true then s else false)
 | [], j, b, hd, hj => by
  refine Ev.succ ?_
  simp only [spec_ColumnOk.l1]
  have he := drop_end hd hj
  refine Ev.neg (by omega) ?_
  rw [List.any_nil, Bool.or_false, wsucc i (by omega)]
  exact Ev.ite (fun _ => hs) (fun _ => Ev.ret _)
 | x :: rest, j, b, hd, hj => by
  obtain ⟨h1, h2, h3⟩ := drop_step z98 hd
  refine Ev.succ ?_
  simp only [spec_ColumnOk.l1]
  refine Ev.pos (by omega) ?_
  rw [wsucc j (by omega), List.any_cons]
  cases b with
  | true =>
   refine Ev.pos rfl ?_
   refine (found_ev h fx bx i hi hi2 hl s hs rest (j + 1) true h3 (by omega)).to ?_
   rw [Bool.true_or, Bool.true_or]
  | false =>
   refine Ev.neg (by simp) ?_
   refine Ev.pos (by omega) ?_
   refine Ev.pos (by omega) ?_
   refine Ev.pos (by omega) ?_
   refine (found_ev h fx bx i hi hi2 hl s hs rest (j + 1) _ h3 (by omega)).to ?_
   rw [Bool.false_or]
   have e1 : rd_T98 bx (j : Int) = x := h2
   have e2 : rd fx (i : Int) = fx.getD i 0 := rfl
   rw [e1, e2]
   rfl
theorem prev_eq (fx : List Int) (i : Nat) : prevP fx ((i + 1 : Nat) : Int) = some (fx.getD i 0) := by
 unfold prevP
 rw [if_neg (by omega), show ((i + 1 : Nat) : Int) - 1 = (i : Int) by omega]
 rfl
theorem any_lows (f : Int) (bx : List S98) : (bx.any (fun x => decide (x.f0 = f))) = decide (f ∈ bx.map (fun b => b.f0)) := by
 rw [Bool.eq_iff_iff, List.any_eq_true, decide_eq_true_iff, List.mem_map]
 constructor
 ·rintro ⟨x, hx, e⟩; exact ⟨x, hx, of_decide_eq_true e⟩
 ·rintro ⟨x, hx, e⟩; exact ⟨x, hx, decide_eq_true e⟩
theorem fixed_ev (h : Int) (h0 : 1 ≤ h) (h1 : h ≤ 24) (fx : List Int) (hx : fx.length ≤ 140737488351232) (bx : List S98) (hl : bx.length ≤ 24) :
  ∀ (rest : List Int) (i : Nat), fx.drop i = rest → i ≤ fx.length → Ev (fun k => spec_ColumnOk.l0 k (i : Int) h fx bx) (fixS h (bx.map (fun b => b.f0)) (prevP fx (i : Int)) rest)
 | [], i, hd, hj => by
  refine Ev.succ ?_
  simp only [spec_ColumnOk.l0]
  have he := drop_end hd hj
  refine Ev.neg (by omega) ?_
  exact Ev.ret _
 | f :: rest, i, hd, hj => by
  obtain ⟨h2, h3, h4⟩ := drop_step 0 hd
  have ih := fixed_ev h h0 h1 fx hx bx hl rest (i + 1) h4 (by omega)
  have hf := found_ev h fx bx i h2 (by omega) hl _ ih bx 0 false rfl (by omega)
  rw [Bool.false_or, any_lows, h3, prev_eq, h3] at hf
  have er : rd fx (i : Int) = f := h3
  have go : ∀ (b : Bool), Ev (fun k => spec_ColumnOk.j2 k (i : Int) b h fx bx) (if b = true then false else if decide (f ∈ bx.map (fun b => b.f0)) = true then fixS h (bx.map (fun b => b.f0)) (some f) rest else false) := by
   intro b
   refine Ev.succ ?_
   simp only [spec_ColumnOk.j2]
   exact Ev.ite (fun _ => Ev.ret _) (fun _ => hf)
  refine Ev.succ ?_
  simp only [spec_ColumnOk.l0]
  refine Ev.pos (by omega) ?_
  refine Ev.pos (by omega) ?_
  rw [er, wid (h - 1) (by omega) (by omega)]
  refine Ev.bind (Ev.const (in_eq _ _ _)) ?_
  simp only [fixS]
  by_cases c1 : 1 ≤ f ∧ f ≤ h - 1
  ·refine Ev.pos (decide_eq_true c1) ?_
   rw [decide_eq_true c1, Bool.true_and]
   by_cases c2 : (i : Int) > 0
   ·have hp : prevP fx (i : Int) = some (fx.getD (i - 1) 0) := by
     have := prev_eq fx (i - 1)
     rwa [show i - 1 + 1 = i by omega] at this
    have e2 : rd fx ((i - 1 : Nat) : Int) = fx.getD (i - 1) 0 := rfl
    refine Ev.pos c2 ?_
    rw [wpred i (by omega) (by omega), hp, e2]
    refine Ev.pos (by omega) ?_
    refine Ev.pos (by omega) ?_
    refine (go _).to ?_
    by_cases c3 : f ≤ fx.getD (i - 1) 0
    ·rw [if_pos (decide_eq_true c3)]
     simp only [decide_eq_false (show ¬ fx.getD (i - 1) 0 < f by omega), Bool.false_and]
    ·rw [if_neg (by simpa using c3)]
     simp only [decide_eq_true (show fx.getD (i - 1) 0 < f by omega), Bool.true_and]
     cases decide (f ∈ bx.map (fun b => b.f0)) <;> simp
   ·have hp : prevP fx (i : Int) = none := by unfold prevP; rw [if_pos (by omega)]
    refine Ev.neg c2 ?_
    refine (go _).to ?_
    rw [hp]
    cases decide (f ∈ bx.map (fun b => b.f0)) <;> simp
  ·refine Ev.neg (by simpa using c1) ?_
   refine (go _).to ?_
   rw [if_pos rfl, decide_eq_false c1]
   simp only [Bool.false_and]
theorem colok_ev (h : Int) (fx : List Int) (hx : fx.length ≤ 140737488351232) (bx : List S98) (hl : bx.length ≤ 140737488351232) : Ev (fun k => spec_ColumnOk.f k h fx bx) (colP h fx bx) := by
 refine Ev.of_eq ?_ (fun k => by unfold spec_ColumnOk.f; rfl)
 refine Ev.bind (Ev.const (in_eq _ _ _)) ?_
 rw [← colS_eq, ← fixS_eq]
 by_cases hh : 1 ≤ h ∧ h ≤ 24
 ·refine Ev.pos (decide_eq_true hh) ?_
  refine Ev.bind (Ev.mk 1100 (fun k hk => boxes_eq h fx bx hl k hk)) ?_
  rw [decide_eq_true hh, Bool.true_and]
  refine Ev.succ ?_
  simp only [spec_ColumnOk.j0]
  cases hS : boxS bx 0 [] with
  | none =>
   refine Ev.pos (by simp [boxesS]) ?_
   exact Ev.ret _
  | some e =>
   by_cases hb : boxesS h bx (some e) = true
   ·rw [hb]
    have hle := boxS_le bx 0 [] e hS
    have he : e ≤ 24 := hle.2.2 (by omega)
    refine Ev.neg (by simp) ?_
    exact fixed_ev h hh.1 hh.2 fx hx bx (by omega) fx 0 rfl (by omega)
   ·have hb2 : boxesS h bx (some e) = false := by simpa using hb
    rw [hb2]
    refine Ev.pos (by simp) ?_
    exact Ev.ret _
 ·refine Ev.neg (by simpa using hh) ?_
  rw [decide_eq_false hh, Bool.false_and]
  refine Ev.succ ?_
  simp only [spec_ColumnOk.j0]
  refine Ev.pos (by simp) ?_
  exact Ev.ret _
end Go.Proofs.Ytbpjidekjogfeaa.A

namespace Go.Proofs.Ytbpjidekjogfeaa.A
open Go.RowKit Go.Proofs.YtbpjidekjogfeaaW.PrintWords Go.Proofs.YtbpjidekjogfeaaW.PrintLast Go.Proofs.YtbpjidekjogfeaaW.PrintMore
set_option linter.unusedVariables false
set_option linter.unusedSimpArgs false
def opB (b : S98) : Bool := decide (b.f2 = 0) && !b.f3
def sumB (l : List S98) : Int := (l.map (fun b => b.f1)).foldr (· + ·) 0
theorem sumB_nil : sumB [] = 0 := rfl
theorem sumB_cons (b : S98) (l : List S98) : sumB (b :: l) = b.f1 + sumB l := rfl
theorem sumB_app (a b : List S98) : sumB (a ++ b) = sumB a + sumB b := by
 induction a with
 | nil => simp [sumB_nil]
 | cons x a ih => rw [List.cons_append, sumB_cons, sumB_cons, ih]; omega
def tile : Int → List S98 → Int → Prop
 | lo, [], hi => lo = hi
 | lo, b :: bs, hi => b.f0 = lo ∧ 1 ≤ b.f1 ∧ tile (lo + b.f1) bs hi
theorem tile_sum : ∀ (bs : List S98) (lo hi : Int), tile lo bs hi → lo + sumB bs = hi ∧ lo + bs.length ≤ hi
 | [], lo, hi, h => by simp only [tile] at h; subst h; simp [sumB_nil]
 | b :: bs, lo, hi, h => by
  obtain ⟨_, h1, h2⟩ := h
  have := tile_sum bs _ _ h2
  rw [sumB_cons, List.length_cons]
  omega
theorem tile_mem : ∀ (bs : List S98) (lo hi : Int), tile lo bs hi → ∀ b ∈ bs, lo ≤ b.f0 ∧ 1 ≤ b.f1 ∧ b.f0 + b.f1 ≤ hi
 | [], _, _, _, b, hb => absurd hb (by simp)
 | x :: bs, lo, hi, h, b, hb => by
  obtain ⟨h0, h1, h2⟩ := h
  have h3 := tile_sum bs _ _ h2
  rcases List.mem_cons.mp hb with rfl | hb
  ·omega
  ·have := tile_mem bs _ _ h2 b hb
   omega
def gapR : List S98 → S50
 | [] => ⟨0, 0, 0⟩
 | b :: bs => ⟨0, b.f0, sumB (b :: bs)⟩
def emR (cur : List S98) : List S50 := if cur = [] then [] else [gapR cur]
def gapsW (fx : List Int) : List S98 → List S98 → List S50
 | cur, [] => emR cur
 | cur, b :: bs => if opB b = true then (if cur ≠ [] ∧ b.f0 ∉ fx then gapsW fx (cur ++ [b]) bs else emR cur ++ gapsW fx [b] bs) else emR cur ++ gapsW fx [] bs
def gapsB (fx : List Int) (bx : List S98) : List S50 := gapsW fx [] bx
def emD (pre cur bs : List S98) : List (List S98 × List S98 × List S98) := if cur = [] then [] else [(pre, cur, bs)]
def decs (fx : List Int) : List S98 → List S98 → List S98 → List (List S98 × List S98 × List S98)
 | pre, cur, [] => emD pre cur []
 | pre, cur, b :: bs => if opB b = true then (if cur ≠ [] ∧ b.f0 ∉ fx then decs fx pre (cur ++ [b]) bs else emD pre cur (b :: bs) ++ decs fx (pre ++ cur) [b] bs) else emD pre cur (b :: bs) ++ decs fx (pre ++ cur ++ [b]) [] bs
theorem emD_gap (pre cur bs : List S98) : (emD pre cur bs).map (fun d => gapR d.2.1) = emR cur := by
 unfold emD emR; split <;> rfl
theorem decs_gaps (fx : List Int) : ∀ (bs pre cur : List S98), (decs fx pre cur bs).map (fun d => gapR d.2.1) = gapsW fx cur bs
 | [], pre, cur => emD_gap pre cur []
 | b :: bs, pre, cur => by
  simp only [decs, gapsW]
  split
  ·split
   ·exact decs_gaps fx bs _ _
   ·rw [List.map_append, emD_gap, decs_gaps fx bs]
  ·rw [List.map_append, emD_gap, decs_gaps fx bs]
def Shut (fx : List Int) (A : List S98) : Prop := ∀ Z, gapsW fx [] (A ++ Z) = gapsW fx [] A ++ gapsW fx [] Z
def ShutAt (fx : List Int) (A : List S98) (lo : Int) : Prop := ∀ z Z, z.f0 = lo → gapsW fx [] (A ++ z :: Z) = gapsW fx [] A ++ gapsW fx [] (z :: Z)
theorem Shut.at {fx : List Int} {A : List S98} (h : Shut fx A) (lo : Int) : ShutAt fx A lo := fun z Z _ => h (z :: Z)
def parcs (ps : List Int) : List S98 → Prop
 | [] => True
 | b :: bs => (0 ≤ b.f2 ∧ b.f2 ≤ 999) ∧ ¬ (0 < b.f2 ∧ b.f2 ∈ ps) ∧ parcs (b.f2 :: ps) bs
theorem boxS_iff : ∀ (bs : List S98) (low : Int) (ps : List Int) (e : Int), 0 ≤ low → low ≤ 24 → (boxS bs low ps = some e ↔ tile low bs e ∧ e ≤ 24 ∧ parcs ps bs)
 | [], low, ps, e, h0, h => by
  simp only [boxS, tile, parcs, Option.some.injEq]
  constructor
  ·rintro rfl; exact ⟨rfl, h, trivial⟩
  ·rintro ⟨h, _⟩; exact h
 | b :: bs, low, ps, e, hn, h => by
  simp only [boxS, tile, parcs]
  constructor
  ·intro hs
   split at hs
   ·next hc =>
    obtain ⟨h1, h2, h3⟩ := (boxS_iff bs _ _ e (by omega) hc.2.2.2.2).mp hs
    exact ⟨⟨hc.1, hc.2.1.1, h1⟩, h2, hc.2.2.1, hc.2.2.2.1, h3⟩
   ·cases hs
  ·rintro ⟨⟨h0, h1, h2⟩, h3, h4, h5, h6⟩
   have hs := tile_sum _ _ _ h2
   rw [if_pos ⟨h0, ⟨h1, by omega⟩, h4, h5, by omega⟩]
   exact (boxS_iff bs _ _ e (by omega) (by omega)).mpr ⟨h2, h3, h6⟩
structure ColV (h : Int) (fx : List Int) (bx : List S98) : Prop where
 hi : 1 ≤ h ∧ h ≤ 24
 til : tile 0 bx h
 par : parcs [] bx
 fix : fixP h none fx = true
 low : ∀ f ∈ fx, ∃ b ∈ bx, b.f0 = f
theorem colP_iff (h : Int) (fx : List Int) (bx : List S98) : colP h fx bx = true ↔ ColV h fx bx := by
 rw [← colS_eq]
 constructor
 ·intro e
  simp only [Bool.and_eq_true, decide_eq_true_eq] at e
  obtain ⟨e1, e2, e3, e4⟩ := e
  cases hS : boxS bx 0 [] with
  | none => rw [hS] at e2; simp [boxesS] at e2
  | some x =>
   rw [hS] at e2
   simp only [boxesS, Bool.and_eq_true, decide_eq_true_eq] at e2
   obtain ⟨_, rfl⟩ := e2
   obtain ⟨t1, t2, t3⟩ := (boxS_iff bx 0 [] x (by omega) (by omega)).mp hS
   refine ⟨e1, t1, t3, e3, fun f hf => ?_⟩
   have := List.all_eq_true.mp e4 f hf
   simp only [decide_eq_true_eq, List.mem_map] at this
   exact this
 ·intro v
  have hS := (boxS_iff bx 0 [] h (by omega) (by omega)).mpr ⟨v.til, v.hi.2, v.par⟩
  have hne : bx ≠ [] := by
   intro e
   have := v.til
   rw [e] at this
   simp only [tile] at this
   have := v.hi
   omega
  simp only [Bool.and_eq_true, decide_eq_true_eq]
  refine ⟨v.hi, ?_, v.fix, ?_⟩
  ·rw [hS]; simp [boxesS, hne]
  ·exact List.all_eq_true.mpr (fun f hf => by simp only [decide_eq_true_eq, List.mem_map]; exact v.low f hf)
theorem ColV.len {h : Int} {fx : List Int} {bx : List S98} (v : ColV h fx bx) : bx.length ≤ 24 := by
 have := tile_sum _ _ _ v.til
 have := v.hi
 omega
theorem ColV.mem {h : Int} {fx : List Int} {bx : List S98} (v : ColV h fx bx) {b : S98} (hb : b ∈ bx) : 0 ≤ b.f0 ∧ 1 ≤ b.f1 ∧ b.f0 + b.f1 ≤ 24 := by
 have := tile_mem _ _ _ v.til b hb
 have := v.hi
 omega
theorem parcs_iff : ∀ (bs : List S98) (ps : List Int), parcs ps bs ↔ (∀ b ∈ bs, 0 ≤ b.f2 ∧ b.f2 ≤ 999) ∧ (∀ b ∈ bs, 0 < b.f2 → b.f2 ∉ ps) ∧ bs.Pairwise (fun a b => 0 < b.f2 → a.f2 ≠ b.f2)
 | [], ps => by simp [parcs]
 | b :: bs, ps => by
  simp only [parcs]
  rw [parcs_iff bs]
  constructor
  ·rintro ⟨h1, h2, h3, h4, h5⟩
   refine ⟨fun x hx => ?_, fun x hx h0 => ?_, List.pairwise_cons.mpr ⟨fun x hx h0 e => h4 x hx h0 (by rw [← e]; simp), h5⟩⟩
   ·rcases List.mem_cons.mp hx with rfl | hx
    ·exact h1
    ·exact h3 x hx
   ·rcases List.mem_cons.mp hx with rfl | hx
    ·exact fun hm => h2 ⟨h0, hm⟩
    ·exact fun hm => h4 x hx h0 (by simp [hm])
  ·rintro ⟨h1, h2, h3⟩
   obtain ⟨h4, h5⟩ := List.pairwise_cons.mp h3
   refine ⟨h1 b (by simp), fun h => h2 b (by simp) h.1 h.2, fun x hx => h1 x (by simp [hx]), fun x hx h0 hm => ?_, h5⟩
   rcases List.mem_cons.mp hm with e | hm
   ·exact h4 x hx h0 e.symm
   ·exact h2 x (by simp [hx]) h0 hm
end Go.Proofs.Ytbpjidekjogfeaa.A

namespace Go.Proofs.Ytbpjidekjogfeaa.A
open Go.RowKit Go.Proofs.YtbpjidekjogfeaaW.PrintWords Go.Proofs.YtbpjidekjogfeaaW.PrintLast Go.Proofs.YtbpjidekjogfeaaW.PrintMore
attribute [local go_sem] max2_int min2_int max_two min_two max_three min_three max_four min_four   
set_option linter.unusedVariables false
set_option linter.unusedSimpArgs false
def idxP : List S98 → Int → Int → Int
 | [], _, _ => -1
 | b :: bs, p, i => if b.f2 = p then i else idxP bs p (i + 1)
end Go.Proofs.Ytbpjidekjogfeaa.A

namespace Go.Proofs.Ytbpjidekjogfeaa.A
open Go.RowKit Go.Proofs.YtbpjidekjogfeaaW.PrintWords Go.Proofs.YtbpjidekjogfeaaW.PrintLast Go.Proofs.YtbpjidekjogfeaaW.PrintMore
set_option linter.unusedVariables false
set_option linter.unusedSimpArgs false
def toI_Box (b : S123) : S98 := ⟨b.f0, b.f1, b.f2, b.f3⟩
theorem toIntS_ev (l : List Int) (hl : l.length ≤ 1048576) : Ev (fun k => laws_toIntS.f k l) l := Ev.mk l.length (fun k hk => by
 unfold laws_toIntS.f
 rw [if_pos (by omega), if_pos (by omega)]
 refine (map_loop (L := fun k acc i => laws_toIntS.l0 k l acc i) (xs := l) (g := id) 0 (fun k acc i hi ha => ?_) (fun k acc => ?_) l.length k _ 0 (by omega) hk (by simp) (fun j hj => by omega)).trans (by rw [List.map_id])
 ·simp only [laws_toIntS.l0]
  rw [if_pos (by omega), if_pos (by omega), if_pos (by omega), wsucc i (by omega)]
  rfl
 ·simp only [laws_toIntS.l0]
  rw [if_neg (by omega)])
theorem toBoxS_ev (l : List S123) (hl : l.length ≤ 1048576) : Ev (fun k => laws_toBoxS.f k l) (l.map toI_Box) := Ev.mk l.length (fun k hk => by
 unfold laws_toBoxS.f
 rw [if_pos (by omega), if_pos (by omega)]
 refine map_loop (L := fun k acc i => laws_toBoxS.l0 k l acc i) z123 (fun k acc i hi ha => ?_) (fun k acc => ?_) l.length k _ 0 (by omega) hk (by simp) (fun j hj => by omega)
 ·simp only [laws_toBoxS.l0]
  rw [if_pos (by omega), if_pos (by omega)]
  simp only [laws_toBox.f, Option.bind_some]
  rw [if_pos (by omega), wsucc i (by omega)]
  rfl
 ·simp only [laws_toBoxS.l0]
  rw [if_neg (by omega)])
theorem toColumn_ev (h : Int) (fx : List Int) (bx : List S123) (hf : fx.length ≤ 1048576) (hb : bx.length ≤ 1048576) : Ev (fun k => laws_toColumn.f k h fx bx) (h, fx, bx.map toI_Box) := by
 unfold laws_toColumn.f
 exact Ev.bind (toIntS_ev fx hf) (Ev.bind (toBoxS_ev bx hb) (Ev.ret _))
theorem szColumn_eq (h : Int) (fx : List Int) (bx : List S123) (a : Int) (h0 : 0 ≤ a) (h1 : a ≤ 1048576) (hf : fx.length ≤ 9223372036854775807) (hb : bx.length ≤ 9223372036854775807) : laws_szColumn.f h fx bx a = some (if a < fx.length + bx.length then -1 else a - fx.length - bx.length) := by
 unfold laws_szColumn.f laws_szIntS.f laws_szBoxS.f
 rw [wid (a - (fx.length : Int)) (by omega) (by omega)]
 by_cases c : a - (fx.length : Int) < 0
 ·rw [if_pos c]
  simp only [Option.bind_some]
  rw [if_pos (by omega), if_pos (by omega)]
 ·rw [if_neg c]
  simp only [Option.bind_some]
  rw [if_neg c, wid (a - (fx.length : Int) - (bx.length : Int)) (by omega) (by omega)]
  by_cases d : a - (fx.length : Int) - (bx.length : Int) < 0
  ·rw [if_pos d]
   simp only [Option.bind_some]
   rw [if_pos (by omega), if_pos (by omega)]
  ·rw [if_neg d]
   simp only [Option.bind_some]
   rw [if_neg d, if_neg (by omega)]
theorem eqIntS_ev (l : List Int) (hl : l.length ≤ 1048576) : Ev (fun k => laws_eqIntS.f k l l) true := Ev.mk l.length (fun k hk => by
 unfold laws_eqIntS.f
 rw [if_pos rfl]
 have h := all_loop (L := fun k i => laws_eqIntS.l0 k l l i) (n := l.length) (P := fun _ => true) (fun k i hi => ?_) (fun k => ?_) l.length k 0 (by omega) hk
 ·have e : (List.range' 0 l.length).all (fun _ => true) = true := by simp
  rw [e] at h
  exact h
 ·simp only [laws_eqIntS.l0]
  rw [if_pos (by omega), if_pos (by omega), if_pos (by omega)]
  simp only [if_true]
  rw [wsucc i (by omega)]
 ·simp only [laws_eqIntS.l0]
  rw [if_neg (by omega)])
theorem eqBoxS_ev (l : List S98) (hl : l.length ≤ 1048576) : Ev (fun k => laws_eqBoxS.f k l l) true := Ev.mk l.length (fun k hk => by
 unfold laws_eqBoxS.f
 rw [if_pos rfl]
 have h := all_loop (L := fun k i => laws_eqBoxS.l0 k l l i) (n := l.length) (P := fun _ => true) (fun k i hi => ?_) (fun k => ?_) l.length k 0 (by omega) hk
 ·have e : (List.range' 0 l.length).all (fun _ => true) = true := by simp
  rw [e] at h
  exact h
 ·simp only [laws_eqBoxS.l0]
  rw [if_pos (by omega), if_pos (by omega), if_pos (by omega)]
  simp only [laws_eqBox.f, bne_self_eq_false, Bool.false_eq_true, if_false, if_true, Option.bind_some]
  rw [wsucc i (by omega)]
 ·simp only [laws_eqBoxS.l0]
  rw [if_neg (by omega)])
theorem eqColumn_ev (h : Int) (fx : List Int) (bx : List S98) (hf : fx.length ≤ 1048576) (hb : bx.length ≤ 1048576) : Ev (fun k => laws_eqColumn.f k h fx bx h fx bx) true := by
 unfold laws_eqColumn.f
 refine Ev.pos rfl ?_
 refine Ev.bind (eqIntS_ev fx hf) ?_
 refine Ev.pos rfl ?_
 refine Ev.bind (eqBoxS_ev bx hb) ?_
 refine Ev.pos rfl ?_
 exact Ev.ret _
theorem mark_loop {β : Type} {L : Nat → List β → Int → Int → Option (Int × List β)} {n : Nat} {g : Nat → β} {X : Nat → Int}
  (h : ∀ k acc (i : Nat), i < n → acc.length = n → L (k + 1) acc (X i) (i : Int) = L k (acc.set i (g i)) (X (i + 1)) ((i + 1 : Nat) : Int))
  (he : ∀ k acc, acc.length = n → L (k + 1) acc (X n) (n : Int) = some (X n, acc)) (d : Nat) :
  ∀ k acc (i : Nat), i + d = n → d < k → acc.length = n → (∀ j, j < i → acc[j]? = ((List.range n).map g)[j]?) → L k acc (X i) (i : Int) = some (X n, (List.range n).map g) := by
 induction d with
 | zero =>
  intro k acc i hi hk hl hp
  obtain ⟨k, rfl⟩ : ∃ m, k = m + 1 := ⟨k - 1, by omega⟩
  obtain rfl : i = n := by omega
  rw [he k acc hl]
  congr 2
  apply List.ext_getElem?
  intro j
  by_cases hj : j < i
  ·exact hp j hj
  ·rw [List.getElem?_eq_none (by omega), List.getElem?_eq_none (by simp; omega)]
 | succ d ih =>
  intro k acc i hi hk hl hp
  obtain ⟨k, rfl⟩ : ∃ m, k = m + 1 := ⟨k - 1, by omega⟩
  rw [h k acc i (by omega) hl]
  refine ih k _ (i + 1) (by omega) (by omega) (by simp [hl]) (fun j hj => ?_)
  by_cases e : i = j
  ·subst e
   rw [List.getElem?_set_self (by omega), List.getElem?_map, List.getElem?_range (by omega)]
   rfl
  ·rw [List.getElem?_set_ne e]
   exact hp j (by omega)
theorem held_loop {L : Nat → Int → Int → Option Int} {n : Nat} {X : Nat → Int}
  (h : ∀ k (i : Nat), i < n → L (k + 1) (X i) (i : Int) = L k (X (i + 1)) ((i + 1 : Nat) : Int)) (he : ∀ k, L (k + 1) (X n) (n : Int) = some (X n)) (d : Nat) :
  ∀ k (i : Nat), i + d = n → d < k → L k (X i) (i : Int) = some (X n) := by
 induction d with
 | zero =>
  intro k i hi hk
  obtain ⟨k, rfl⟩ : ∃ m, k = m + 1 := ⟨k - 1, by omega⟩
  obtain rfl : i = n := by omega
  exact he k
 | succ d ih =>
  intro k i hi hk
  obtain ⟨k, rfl⟩ : ∃ m, k = m + 1 := ⟨k - 1, by omega⟩
  rw [h k i (by omega)]
  exact ih k (i + 1) (by omega) (by omega)
theorem getD_range {β : Type} (n : Nat) (g : Nat → β) (d : β) (i : Nat) (h : i < n) : ((List.range n).map g).getD i d = g i := by
 rw [List.getD_eq_getElem?_getD, List.getElem?_map, List.getElem?_range h]
 rfl
def mkI (a : Int) (n : Nat) : List Int := (List.range n).map (fun (j : Nat) => a + (j : Int))
theorem markIntS_ev (l : List Int) (hl : l.length ≤ 1048576) (a : Int) (h0 : 0 ≤ a) (h1 : a ≤ 100000000) : Ev (fun k => laws_markIntS.f k l a) (a + l.length, mkI a l.length) := Ev.mk l.length (fun k hk => by
 unfold laws_markIntS.f
 have h := mark_loop (L := fun k acc x i => laws_markIntS.l0 k acc x i) (n := l.length) (g := fun j => a + (j : Int)) (X := fun j => a + (j : Int)) (fun k acc i hi ha => ?_) (fun k acc ha => ?_) l.length k l 0 (by omega) hk rfl (fun j hj => by omega)
 ·rw [show a + ((0 : Nat) : Int) = a by omega] at h
  exact h
 ·simp only [laws_markIntS.l0]
  rw [if_pos (by omega), if_pos (by omega), wid (a + (i : Int) + 1) (by omega) (by omega), wsucc i (by omega), show a + (i : Int) + 1 = a + ((i + 1 : Nat) : Int) by omega]
  rfl
 ·simp only [laws_markIntS.l0]
  rw [if_neg (by omega)])
theorem rd_set {l : List S98} {i : Nat} (h : i < l.length) (v : S98) : rd_T98 (l.set i v) (i : Int) = v := by
 show (l.set i v).getD i _ = v
 rw [List.getD_eq_getElem?_getD, List.getElem?_set_self h]
 rfl
def mkBox (x : Int) : S98 := ⟨x, x + 1, x + 2, Int.tmod (x + 3) 3 == 0⟩
def mkB (a : Int) (n : Nat) : List S98 := (List.range n).map (fun (j : Nat) => mkBox (a + 4 * (j : Int)))
theorem markBoxS_ev (l : List S98) (hl : l.length ≤ 1048576) (a : Int) (h0 : 0 ≤ a) (h1 : a ≤ 100000000) : Ev (fun k => laws_markBoxS.f k l a) (a + 4 * l.length, mkB a l.length) := Ev.mk l.length (fun k hk => by
 unfold laws_markBoxS.f
 have h := mark_loop (L := fun k acc x i => laws_markBoxS.l0 k acc x i) (n := l.length) (g := fun j => mkBox (a + 4 * (j : Int))) (X := fun j => a + 4 * (j : Int)) (fun k acc i hi ha => ?_) (fun k acc ha => ?_) l.length k l 0 (by omega) hk rfl (fun j hj => by omega)
 ·rw [show a + 4 * ((0 : Nat) : Int) = a by omega] at h
  exact h
 ·simp only [laws_markBoxS.l0]
  generalize hx : a + 4 * (i : Int) = x
  rw [if_pos (by omega), if_pos (by omega)]
  simp only [Option.bind_some, Int.toNat_natCast]
  rw [wid (x + 1) (by omega) (by omega), wid (x + 1 + 1) (by omega) (by omega), wid (x + 1 + 1 + 1) (by omega) (by omega), wid (x + 1 + 1 + 1 + 1) (by omega) (by omega), wsucc i (by omega)]
  have s1 : i < acc.length := by omega
  simp only [rd_set s1, List.set_set]
  rw [show x + 1 + 1 + 1 + 1 = a + 4 * ((i + 1 : Nat) : Int) by omega, show x + 1 + 1 + 1 = x + 3 by omega, show x + 1 + 1 = x + 2 by omega]
  rfl
 ·simp only [laws_markBoxS.l0]
  rw [if_neg (by omega)])
end Go.Proofs.Ytbpjidekjogfeaa.A

namespace Go.Proofs.Ytbpjidekjogfeaa.A
open Go.RowKit Go.Proofs.YtbpjidekjogfeaaW.PrintWords Go.Proofs.YtbpjidekjogfeaaW.PrintLast Go.Proofs.YtbpjidekjogfeaaW.PrintMore
set_option linter.unusedVariables false
set_option linter.unusedSimpArgs false
theorem idxP_add : ∀ (l : List S98) (p i : Int), 0 ≤ i → (idxP l p i = -1 ∧ ∀ b ∈ l, b.f2 ≠ p) ∨ ∃ l1 b l2, l = l1 ++ b :: l2 ∧ b.f2 = p ∧ (∀ x ∈ l1, x.f2 ≠ p) ∧ idxP l p i = i + l1.length
 | [], p, i, _ => Or.inl ⟨rfl, by simp⟩
 | b :: l, p, i, hi => by
  simp only [idxP]
  by_cases c : b.f2 = p
  ·rw [if_pos c]
   exact Or.inr ⟨[], b, l, rfl, c, by simp, by simp⟩
  ·rw [if_neg c]
   rcases idxP_add l p (i + 1) (by omega) with ⟨h1, h2⟩ | ⟨l1, x, l2, h1, h2, h3, h4⟩
   ·exact Or.inl ⟨h1, fun y hy => by
     rcases List.mem_cons.mp hy with rfl | hy
     ·exact c
     ·exact h2 y hy⟩
   ·refine Or.inr ⟨b :: l1, x, l2, by rw [h1]; rfl, h2, fun y hy => ?_, by rw [h4, List.length_cons]; omega⟩
    rcases List.mem_cons.mp hy with rfl | hy
    ·exact c
    ·exact h3 y hy
theorem idxP_cases (l : List S98) (p : Int) : (idxP l p 0 = -1 ∧ ∀ b ∈ l, b.f2 ≠ p) ∨ ∃ l1 b l2, l = l1 ++ b :: l2 ∧ b.f2 = p ∧ (∀ x ∈ l1, x.f2 ≠ p) ∧ idxP l p 0 = l1.length := by
 rcases idxP_add l p 0 (Int.le_refl _) with h | ⟨l1, b, l2, h1, h2, h3, h4⟩
 ·exact Or.inl h
 ·exact Or.inr ⟨l1, b, l2, h1, h2, h3, by rw [h4]; omega⟩
def boxI (l : List S98) (p : Int) : Int := if 0 < p then idxP l p 0 else -1
theorem box_loop (h : Int) (fx : List Int) (bx : List S98) (hl : bx.length ≤ 1048576) (p : Int) : ∀ (rest : List S98) (i : Nat), bx.drop i = rest → i ≤ bx.length → Ev (fun k => spec_l02Box.l0 k p (i : Int) h fx bx) (if 0 < p then idxP rest p (i : Int) else -1)
 | [], i, hd, hi => by
  have he := drop_end hd hi
  refine Ev.succ ?_
  simp only [spec_l02Box.l0]
  refine Ev.neg (by omega) ?_
  refine Ev.to (Ev.ret _) ?_
  simp [idxP]
 | b :: rest, i, hd, hi => by
  obtain ⟨h1, h2, h3⟩ := drop_step z98 hd
  have er : rd_T98 bx (i : Int) = b := h2
  have ih := box_loop h fx bx hl p rest (i + 1) h3 (by omega)
  refine Ev.succ ?_
  simp only [spec_l02Box.l0, er]
  refine Ev.pos (by omega) ?_
  refine Ev.pos (by omega) ?_
  rw [wsucc i (by omega)]
  by_cases c : b.f2 = p
  ·refine Ev.pos c ?_
   by_cases d : p > 0
   ·refine Ev.pos d (Ev.to (Ev.ret _) ?_)
    rw [if_pos d]
    simp only [idxP]
    rw [if_pos c]
   ·refine Ev.neg d (Ev.to ih ?_)
    rw [if_neg d, if_neg d]
  ·refine Ev.neg c (Ev.to ih ?_)
   simp only [idxP]
   rw [if_neg c]
   rfl
theorem box_ev (h : Int) (fx : List Int) (bx : List S98) (hl : bx.length ≤ 1048576) (p : Int) : Ev (fun k => spec_l02Box.f k h fx bx p) (boxI bx p) := by
 unfold spec_l02Box.f
 exact box_loop h fx bx hl p bx 0 rfl (by omega)
end Go.Proofs.Ytbpjidekjogfeaa.A
