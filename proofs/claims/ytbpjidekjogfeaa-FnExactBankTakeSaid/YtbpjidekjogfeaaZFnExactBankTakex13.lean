/- Used by the law FnExactBankTake. -/
import Derived.Test.YtbpjidekjogfeaaZFnExactBankTakex11
import Derived.Test.YtbpjidekjogfeaaZFnExactBankTakex12
import Derived.Test.YtbpjidekjogfeaaZFnExactBankTakeh
namespace Go.Proofs.Ytbpjidekjogfeaa.A
open Go.RowKit Go.Proofs.YtbpjidekjogfeaaW.PrintWords Go.Proofs.YtbpjidekjogfeaaW.PrintLast Go.Proofs.YtbpjidekjogfeaaW.PrintMore
attribute [local go_sem] max2_int min2_int max_two min_two max_three min_three max_four min_four   
set_option linter.unusedVariables false
set_option linter.unusedSimpArgs false
def fixP (h : Int) : Option Int → List Int → Bool
 | _, [] => true
 | p, f :: fs => decide (1 ≤ f ∧ f ≤ h - 1) && (match p with | none => true | some q => decide (q < f)) && fixP h (some f) fs
def boxP (h : Int) : List S98 → Int → List Int → List Int → Option (Int × List Int)
 | [], low, ls, _ => some (low, ls)
 | b :: bs, low, ls, ps => if b.f0 = low ∧ (1 ≤ b.f1 ∧ b.f1 ≤ h - low) ∧ (0 ≤ b.f2 ∧ b.f2 ≤ 999) ∧ ¬ (0 < b.f2 ∧ b.f2 ∈ ps) then boxP h bs (low + b.f1) (b.f0 :: ls) (b.f2 :: ps) else none
def colP (h : Int) (fx : List Int) (bx : List S98) : Bool :=
 decide (1 ≤ h ∧ h ≤ 24) && decide (bx ≠ []) && fixP h none fx && (match boxP h bx 0 [] [] with | none => false | some (low, ls) => fx.all (fun f => decide (f ∈ ls)) && decide (low = h))
theorem int_wf {a : Int} (h : -9223372036854775808 ≤ a ∧ a ≤ 9223372036854775807) : (Lit.int .i64 a).wf = true := by
 simp only [Lit.wf, IntKind.min, IntKind.max, IntKind.signed, IntKind.bits, Bool.and_eq_true, decide_eq_true_eq, if_true]
 omega
theorem wp_drewN {P : Program} {c : Code} {Q : Exit → Act → World → Prop} {a : Act} {W : World} {n : Nat} (h : ∀ m, c.wp P Q a (W.drewN m)) : c.wp P Q a (W.drewN n) := h n
theorem fix_in (h : Int) : ∀ (l : List Int) (p : Option Int), fixP h p l = true → ∀ f ∈ l, 1 ≤ f ∧ f ≤ h - 1
 | [], _, _, f, hf => absurd hf (by simp)
 | x :: l, p, e, f, hf => by
  simp only [fixP, Bool.and_eq_true, decide_eq_true_eq] at e
  rcases List.mem_cons.mp hf with rfl | hf
  ·exact e.1.1
  ·exact fix_in h l _ e.2 f hf
theorem within_is (a b c : Int) : impl_within.f a b c = some (decide (b ≤ a ∧ a ≤ c)) := by
 unfold impl_within.f
 split
 ·congr 1; rw [decide_eq_decide]; omega
 ·congr 1; exact (decide_eq_false (by omega)).symm
theorem box4 {W : World} {g : Nat} {t : TypeId} {a b c d : Value} (v0 v1 v2 v3 : Value) (h : W.heap[g]? = some (.cells #[a, b, c, d] t (0, 0))) :
  ((((W.setCell ⟨g, 0, none⟩ v0).setCell ⟨g, 1, none⟩ v1).setCell ⟨g, 2, none⟩ v2).setCell ⟨g, 3, none⟩ v3).heap[g]? = some (.cells #[v0, v1, v2, v3] t (0, 0)) ∧
  W.grownBy ((((W.setCell ⟨g, 0, none⟩ v0).setCell ⟨g, 1, none⟩ v1).setCell ⟨g, 2, none⟩ v2).setCell ⟨g, 3, none⟩ v3) (some g) := by
 refine ⟨blk_set (blk_set (blk_set (blk_set h 0 v0) 1 v1) 2 v2) 3 v3, rfl, rfl, rfl, ?_, fun k _ hk => ?_⟩
 ·simp [World.setCell]
 ·have hk' : k ≠ g := fun e => hk (by rw [e])
  rw [Below.heap_setCell _ _ _ _ hk', Below.heap_setCell _ _ _ _ hk', Below.heap_setCell _ _ _ _ hk', Below.heap_setCell _ _ _ _ hk']
def prevP (fx : List Int) (i : Int) : Option Int := if i ≤ 0 then none else some (rd fx (i - 1))
theorem prevP_succ (fx : List Int) (i : Int) (h : 0 ≤ i) : prevP fx (i + 1) = some (rd fx i) := by
 unfold prevP; rw [if_neg (by omega)]; congr 2; omega
def impl_ColumnOk.f (a0_0 : Int) (l0_1 : List Int) (l0_2 : List (S98)) : Option (Bool) := some (colP a0_0 l0_1 l0_2)
set_option maxHeartbeats 8000000 in
set_option maxRecDepth 100000 in
theorem impl_ColumnOk.calls (a0_0 : Int) (A0_1 : Option Addr) (c0_1 : Nat) (l0_1 : List Int) (A0_2 : Option Addr) (c0_2 : Nat) (l0_2 : List (S98)) (r : Bool) (w : World) (hr0_1 : Kd.C (Kd.int .i64) w A0_1 l0_1.length l0_1) (hc0_1 : l0_1.length ≤ c0_1) (hr0_2 : Kd.C k98 w A0_2 l0_2.length l0_2) (hc0_2 : l0_2.length ≤ c0_2) (h : impl_ColumnOk.f a0_0 l0_1 l0_2 = some r) :
  Calls Try.prog 34 #[.agg #[.int .i64 a0_0, .slice A0_1 l0_1.length c0_1, .slice A0_2 l0_2.length c0_2]] w fun e w' => e = .returned (.bool r) ∧ Below w.heap.size w w' := by
 have hrE : Aside0 (colP a0_0 l0_1 l0_2 = r) := ⟨Option.some.inj h⟩
 have HR1 := Aside0.mk hr0_1
 have HR2 := Aside0.mk hr0_2
 have L1 := Aside0.mk hr0_1.2.1
 have L2 := Aside0.mk hr0_2.2.1
 clear h hr0_1 hr0_2 hc0_1 hc0_2
 have hu30 := Try.underlying41
 have hu71 := Try.underlying98
 have HB := Aside0.mk (Below.refl w.heap.size w)
 by_cases hh : 1 ≤ a0_0 ∧ a0_0 ≤ 24
 ·by_cases hb : l0_2 = []
  ·have hbe : ((l0_2.length : Int) == 0) = true := by rw [hb]; rfl
   have hbe2 : (l0_2.length == 0) = true := by rw [hb]; rfl
   have hW : Aside0 (impl_within.f a0_0 1 24 = some true) := ⟨by rw [within_is, decide_eq_true hh]⟩
   have hr1 : Aside0 (r = false) := ⟨by rw [← hrE.out]; unfold colP; rw [decide_eq_false (show ¬ (l0_2 ≠ []) from fun h => h hb)]; simp⟩
   clear hh hb hrE
   go_enter Try.func34, Try.ntmps34
   go_wp2_with (first | ((with_reducible refine gate_dst (N := 1) rfl ?_); refine bx (cs := #[.int .i64 a0_0, .slice A0_1 l0_1.length c0_1, .slice A0_2 l0_2.length c0_2]) (t := 41) fun gc hg w2 hbox hb => ?_; have HB2 := Aside0.mk (below_step HB.out hb); have BK := Aside0.mk hbox; have GE := Aside0.mk (by rw [hg]; exact Nat.le_refl _ : w.heap.size ≤ gc); clear HB hb hbox hg; have hcz0 := (blk_cell BK.out 0).trans rfl; have hcz1 := (blk_cell BK.out 1).trans rfl; have hcz2 := (blk_cell BK.out 2).trans rfl) | (go_at_call 79; (with_reducible refine (impl_within.calls a0_0 1 24 true _ hW.out).mono ?_); rintro e w' ⟨rfl, ⟨nd, rfl⟩⟩))
   go_ret
   exact ⟨by rw [hr1.out]; rfl, by repeat (first | exact HB2.out | apply pw_below_drewN)⟩
  ·have hbl : Aside0 (0 < l0_2.length) := ⟨by cases l0_2 with | nil => exact absurd rfl hb | cons _ _ => simp⟩
   have hbe : ((l0_2.length : Int) == 0) = false := by have := hbl.out; simp; omega
   have hbe2 : (l0_2.length == 0) = false := by have := hbl.out; simp; omega
   have hW : Aside0 (impl_within.f a0_0 1 24 = some true) := ⟨by rw [within_is, decide_eq_true hh]⟩
   have HH := Aside0.mk hh
   have hr1 : Aside0 (r = (fixP a0_0 none l0_1 && (match boxP a0_0 l0_2 0 [] [] with | none => false | some (low, ls) => l0_1.all (fun f => decide (f ∈ ls)) && decide (low = a0_0)))) := ⟨by
    rw [← hrE.out]; unfold colP; rw [decide_eq_true HH.out, decide_eq_true hb, Bool.true_and, Bool.true_and]⟩
   clear hh hb hrE
   go_enter Try.func34, Try.ntmps34
   go_wp2_with (first | ((with_reducible refine gate_dst (N := 1) rfl ?_); refine bx (cs := #[.int .i64 a0_0, .slice A0_1 l0_1.length c0_1, .slice A0_2 l0_2.length c0_2]) (t := 41) fun gc hg w2 hbox hb => ?_; have HB2 := Aside0.mk (below_step HB.out hb); have BK := Aside0.mk hbox; have GE := Aside0.mk (by rw [hg]; exact Nat.le_refl _ : w.heap.size ≤ gc); clear HB hb hbox hg; have hcz0 := (blk_cell BK.out 0).trans rfl; have hcz1 := (blk_cell BK.out 1).trans rfl; have hcz2 := (blk_cell BK.out 2).trans rfl) | (go_at_call 79; (with_reducible refine (impl_within.calls a0_0 1 24 true _ hW.out).mono ?_); rintro e w' ⟨rfl, ⟨nd, rfl⟩⟩))
   have hwh : Aside0 (wrap64 (a0_0 - 1) = a0_0 - 1) := ⟨by have := HH.out; unfold wrap64; omega⟩
   clear hcz0 hcz1 hcz2 hbe hbe2
   go_loopw [25] (fun v25 wr => ∃ i : Int, v25 = .int .i64 i ∧ Aside0 (0 ≤ i ∧ i ≤ l0_1.length) ∧ Aside0 (fixP a0_0 none l0_1 = fixP a0_0 (prevP l0_1 i) (l0_1.drop i.toNat)) ∧ Aside0 (wr.heap[gc]? = some (.cells #[.int .i64 a0_0, .slice A0_1 l0_1.length c0_1, .slice A0_2 l0_2.length c0_2] 41 (0, 0))) ∧ Aside0 (Below w.heap.size w wr)) (fun v25 _ => l0_1.length - (intOf v25).toNat)
   case atStart => exact ⟨0, rfl, ⟨by omega⟩, ⟨rfl⟩, ⟨by repeat (first | exact BK.out | refine blk_drewN ?_ _)⟩, ⟨by repeat (first | exact HB2.out | apply pw_below_drewN)⟩⟩
   case round =>
    clear BK HB2
    obtain ⟨i, rfl, hk, hi, BK, HB⟩ := hrel
    have hcz0 := (blk_cell BK.out 0).trans rfl
    have hcz1 := (blk_cell BK.out 1).trans rfl
    have hcz2 := (blk_cell BK.out 2).trans rfl
    by_cases hlt : i < (l0_1.length : Int)
    ·have hdrop : Aside0 (l0_1.drop i.toNat = rd l0_1 i :: l0_1.drop (i.toNat + 1)) := ⟨by
      have hn : i.toNat < l0_1.length := by have := hk.out.1; omega
      rw [List.drop_eq_getElem_cons hn]
      unfold rd
      rw [List.getD_eq_getElem?_getD, List.getElem?_eq_getElem hn]; rfl⟩
     obtain ⟨ad, e1, h0⟩ := Kd.at_int HR1.out i hk.out.1 hlt
     subst e1
     replace h0 := (HB.out.cell (World.block_lt_of_cell? w _ h0)).trans h0
     have q0 := eq_true hk.out.1
     have q1 := eq_true hlt
     have hltb : decide (i < (l0_1.length : Int)) = true := decide_eq_true hlt
     have hwr : Aside0 (wrap64 (i + 1) = i + 1) := ⟨by have := hk.out; have := L1.out; unfold wrap64; omega⟩
     have hlt2 := Aside0.mk hlt
     clear hlt
     by_cases hf : 1 ≤ rd l0_1 i ∧ rd l0_1 i ≤ a0_0 - 1
     ·have hW2 : Aside0 (impl_within.f (rd l0_1 i) 1 (wrap64 (a0_0 - 1)) = some true) := ⟨by rw [within_is, hwh.out, decide_eq_true hf]⟩
      by_cases hi0 : 0 < i
      ·have hi0b : decide (0 < i) = true := decide_eq_true hi0
       obtain ⟨ji, hji⟩ : ∃ j_ : Int, wrap64 (i - 1) = j_ := ⟨_, rfl⟩
       have hjiw : (IntKind.i64.wrap (i - 1)) = ji := (i64_w _).trans hji
       have hjv : Aside0 (ji = i - 1) := ⟨by rw [← hji]; have := hlt2.out; have := L1.out; unfold wrap64; omega⟩
       obtain ⟨ad2, e2, h2⟩ := Kd.at_int HR1.out ji (by have := hjv.out; omega) (by have := hjv.out; have := hlt2.out; omega)
       obtain rfl : ad = ad2 := (by injection e2)
       replace h2 := (HB.out.cell (World.block_lt_of_cell? w _ h2)).trans h2
       have q2 : (0 ≤ ji) = True := eq_true (by have := hjv.out; omega)
       have q3 : (ji < (l0_1.length : Int)) = True := eq_true (by have := hjv.out; have := hlt2.out; omega)
       have hi02 := Aside0.mk hi0
       clear hi0
       by_cases hle : rd l0_1 i ≤ rd l0_1 ji
       ·have hleb : decide (rd l0_1 i ≤ rd l0_1 ji) = true := decide_eq_true hle
        have hres : Aside0 (r = false) := ⟨by
         rw [hr1.out, hi.out, hdrop.out]
         have e : prevP l0_1 i = some (rd l0_1 ji) := by unfold prevP; rw [if_neg (by have := hi02.out; omega), hjv.out]
         rw [e]; simp only [fixP]
         rw [decide_eq_false (show ¬ rd l0_1 ji < rd l0_1 i by omega)]; simp⟩
        clear hle hf hi hdrop
        go_wp2_with (go_at_call 79; (with_reducible refine (impl_within.calls (rd l0_1 i) 1 (wrap64 (a0_0 - 1)) true _ hW2.out).mono ?_); rintro e w' ⟨rfl, ⟨nd, rfl⟩⟩)
        go_ret
        exact ⟨by rw [hres.out]; rfl, by repeat (first | exact HB.out | apply pw_below_drewN)⟩
       ·have hleb : decide (rd l0_1 i ≤ rd l0_1 ji) = false := decide_eq_false hle
        have hres : Aside0 (fixP a0_0 none l0_1 = fixP a0_0 (prevP l0_1 (i + 1)) (l0_1.drop (i + 1).toNat)) := ⟨by
         rw [hi.out, hdrop.out, prevP_succ _ _ hk.out.1, show (i + 1).toNat = i.toNat + 1 by have := hk.out.1; omega]
         have e : prevP l0_1 i = some (rd l0_1 ji) := by unfold prevP; rw [if_neg (by have := hi02.out; omega), hjv.out]
         rw [e]; simp only [fixP]
         rw [decide_eq_true hf, decide_eq_true (show rd l0_1 ji < rd l0_1 i by omega)]; simp⟩
        clear hle hf hi hdrop
        go_wp2_with (go_at_call 79; (with_reducible refine (impl_within.calls (rd l0_1 i) 1 (wrap64 (a0_0 - 1)) true _ hW2.out).mono ?_); rintro e w' ⟨rfl, ⟨nd, rfl⟩⟩)
        go_roundw
        case rel => exact ⟨i + 1, by rw [hwr.out], ⟨by have := hk.out; have := hlt2.out; omega⟩, hres, ⟨by repeat (first | exact BK.out | refine blk_drewN ?_ _)⟩, ⟨by repeat (first | exact HB.out | apply pw_below_drewN)⟩⟩
        case measure =>
         have := hk.out; have := hlt2.out
         rw [hwr.out]
         simp [intOf]
         omega
      ·have hi0b : decide (0 < i) = false := decide_eq_false hi0
       have hres : Aside0 (fixP a0_0 none l0_1 = fixP a0_0 (prevP l0_1 (i + 1)) (l0_1.drop (i + 1).toNat)) := ⟨by
        rw [hi.out, hdrop.out, prevP_succ _ _ hk.out.1, show (i + 1).toNat = i.toNat + 1 by have := hk.out.1; omega]
        have e : prevP l0_1 i = none := by unfold prevP; rw [if_pos (by omega)]
        rw [e]; simp only [fixP]
        rw [decide_eq_true hf]; simp⟩
       clear hi0 hf hi hdrop
       go_wp2_with (go_at_call 79; (with_reducible refine (impl_within.calls (rd l0_1 i) 1 (wrap64 (a0_0 - 1)) true _ hW2.out).mono ?_); rintro e w' ⟨rfl, ⟨nd, rfl⟩⟩)
       go_roundw
       case rel => exact ⟨i + 1, by rw [hwr.out], ⟨by have := hk.out; have := hlt2.out; omega⟩, hres, ⟨by repeat (first | exact BK.out | refine blk_drewN ?_ _)⟩, ⟨by repeat (first | exact HB.out | apply pw_below_drewN)⟩⟩
       case measure =>
        have := hk.out; have := hlt2.out
        rw [hwr.out]
        simp [intOf]
        omega
     ·have hW2 : Aside0 (impl_within.f (rd l0_1 i) 1 (wrap64 (a0_0 - 1)) = some false) := ⟨by rw [within_is, hwh.out, decide_eq_false hf]⟩
      have hres : Aside0 (r = false) := ⟨by
       rw [hr1.out, hi.out, hdrop.out]
       simp only [fixP]
       rw [decide_eq_false hf]; simp⟩
      clear hf hi hdrop
      go_wp2_with (go_at_call 79; (with_reducible refine (impl_within.calls (rd l0_1 i) 1 (wrap64 (a0_0 - 1)) false _ hW2.out).mono ?_); rintro e w' ⟨rfl, ⟨nd, rfl⟩⟩)
      go_ret
      exact ⟨by rw [hres.out]; rfl, by repeat (first | exact HB.out | apply pw_below_drewN)⟩
    ·have hltb : decide (i < (l0_1.length : Int)) = false := decide_eq_false hlt
     have hr2 : Aside0 (r = (match boxP a0_0 l0_2 0 [] [] with | none => false | some (low, ls) => l0_1.all (fun f => decide (f ∈ ls)) && decide (low = a0_0))) := ⟨by
      rw [hr1.out, hi.out, List.drop_eq_nil_of_le (by omega)]
      simp only [fixP, Bool.true_and]⟩
     have hfix : Aside0 (fixP a0_0 none l0_1 = true) := ⟨by
      rw [hi.out, List.drop_eq_nil_of_le (by omega)]; simp only [fixP]⟩
     clear hlt hi hk
     have HHb := Aside0.mk (show (0 : Int) ≤ 0 ∧ (0 : Int) ≤ a0_0 by have := HH.out; omega)
     have hzero : ∀ W : World, (zeroValue 4).run Try.prog W = .ok (.bool false) W := fun W => by kernel_rfl
     go_wp2_with (first | ((with_reducible refine gate_dst (N := 51) rfl ?_); refine map_event 3 4 ?hg (N := 51) ?hd 100 ?ho ?_; (case hd => rfl); (case hg => rfl); (case ho => rfl); intro b6 hg w3 hm hb; have M6 := Aside0.mk hm; have n0_ := Aside0.mk (blk_below BK.out hb); have n1_ := Aside0.mk (below_step HB.out hb); have G6 := Aside0.mk (by rw [hg]; exact HB.out.size : w.heap.size ≤ b6); have N6 := Aside0.mk (by rw [hg]; exact Nat.ne_of_lt (blk_lt BK.out) : gc ≠ b6); clear BK HB; have BK := n0_; have HB := n1_; clear n0_ n1_ hm hg hb) | ((with_reducible refine gate_dst (N := 52) rfl ?_); refine map_event 3 4 ?hg (N := 52) ?hd 100 ?ho ?_; (case hd => rfl); (case hg => rfl); (case ho => rfl); intro b7 hg w4 hm hb; have M7 := Aside0.mk hm; have n0_ := Aside0.mk (blk_below BK.out hb); have n1_ := Aside0.mk (below_step HB.out hb); have n2_ := Aside0.mk (M6.out.below hb); have G7 := Aside0.mk (by rw [hg]; exact HB.out.size : w.heap.size ≤ b7); have N7 := Aside0.mk (by rw [hg]; exact Nat.ne_of_lt (blk_lt BK.out) : gc ≠ b7); have N67 := Aside0.mk (by rw [hg]; exact Nat.ne_of_lt M6.out.lt : b6 ≠ b7); clear BK HB M6; have BK := n0_; have HB := n1_; have M6 := n2_; clear n0_ n1_ n2_ hm hg hb; clear hcz0 hcz1 hcz2; have hcz0 := (blk_cell BK.out 0).trans rfl; have hcz1 := (blk_cell BK.out 1).trans rfl; have hcz2 := (blk_cell BK.out 2).trans rfl))
     clear hcz0 hcz1 hcz2
     go_loopw [5, 56] (fun v5 v56 wr => ∃ (i low : Int) (ls ps : List Int), v5 = .int .i64 low ∧ v56 = .int .i64 i ∧ Aside0 (0 ≤ i ∧ i ≤ l0_2.length) ∧ Aside0 (boxP a0_0 l0_2 0 [] [] = boxP a0_0 (l0_2.drop i.toNat) low ls ps) ∧ Aside0 (0 ≤ low ∧ low ≤ a0_0 ∧ i ≤ low) ∧ Aside0 ((ls.length : Int) = i ∧ (ps.length : Int) = i) ∧ Aside0 (MapSet Try.prog 3 4 wr b6 ls) ∧ Aside0 (MapSet Try.prog 3 4 wr b7 ps) ∧ Aside0 (wr.heap[gc]? = some (.cells #[.int .i64 a0_0, .slice A0_1 l0_1.length c0_1, .slice A0_2 l0_2.length c0_2] 41 (0, 0))) ∧ Aside0 (Below w.heap.size w wr)) (fun _ v56 _ => l0_2.length - (intOf v56).toNat)
     case atStart => exact ⟨0, 0, [], [], rfl, rfl, ⟨by omega⟩, ⟨rfl⟩, ⟨by have := HHb.out; omega⟩, ⟨by simp⟩, M6, M7, BK, HB⟩
     case round =>
      clear M6 M7 BK HB
      obtain ⟨i2, low, ls, ps, rfl, rfl, hk, hi, hlow, hlen, M6, M7, BK, HB⟩ := hrel
      by_cases hlt : i2 < (l0_2.length : Int)
      ·have hdrop : Aside0 (l0_2.drop i2.toNat = rd_T98 l0_2 i2 :: l0_2.drop (i2.toNat + 1)) := ⟨by
        have hn : i2.toNat < l0_2.length := by have := hk.out.1; omega
        rw [List.drop_eq_getElem_cons hn]
        unfold rd_T98
        rw [List.getD_eq_getElem?_getD, List.getElem?_eq_getElem hn]; rfl⟩
       obtain ⟨ad, e1, h0, h1, h2, h3⟩ := at_T98 HR2.out i2 hk.out.1 hlt
       subst e1
       replace h0 := (HB.out.cell (World.block_lt_of_cell? w _ h0)).trans h0
       replace h1 := (HB.out.cell (World.block_lt_of_cell? w _ h1)).trans h1
       replace h2 := (HB.out.cell (World.block_lt_of_cell? w _ h2)).trans h2
       replace h3 := (HB.out.cell (World.block_lt_of_cell? w _ h3)).trans h3
       have q0 := eq_true hk.out.1
       have q1 := eq_true hlt
       have hltb : decide (i2 < (l0_2.length : Int)) = true := decide_eq_true hlt
       have hwr : Aside0 (wrap64 (i2 + 1) = i2 + 1) := ⟨by have := hk.out; have := L2.out; unfold wrap64; omega⟩
       have hwl : Aside0 (wrap64 (a0_0 - low) = a0_0 - low) := ⟨by have := hlow.out; have := HH.out; unfold wrap64; omega⟩
       have hlt2 := Aside0.mk hlt
       clear hlt
       by_cases c0 : (rd_T98 l0_2 i2).f0 = low
       ·have c0b : ((rd_T98 l0_2 i2).f0 != low) = false := by simpa using c0
        by_cases h1 : 1 ≤ (rd_T98 l0_2 i2).f1 ∧ (rd_T98 l0_2 i2).f1 ≤ a0_0 - low
        ·have W1 : Aside0 (impl_within.f (rd_T98 l0_2 i2).f1 1 (wrap64 (a0_0 - low)) = some true) := ⟨by rw [within_is, hwl.out, decide_eq_true h1]⟩
         have H1 := Aside0.mk h1
         clear h1
         by_cases h2 : 0 ≤ (rd_T98 l0_2 i2).f2 ∧ (rd_T98 l0_2 i2).f2 ≤ 999
         ·have W2 : Aside0 (impl_within.f (rd_T98 l0_2 i2).f2 0 999 = some true) := ⟨by rw [within_is, decide_eq_true h2]⟩
          have H2 := Aside0.mk h2
          clear h2
          by_cases h3 : 0 < (rd_T98 l0_2 i2).f2
          ·have c3b : decide (0 < (rd_T98 l0_2 i2).f2) = true := decide_eq_true h3
           by_cases h4 : (rd_T98 l0_2 i2).f2 ∈ ps
           ·have hdm : decide ((rd_T98 l0_2 i2).f2 ∈ ps) = true := decide_eq_true h4
            have hres : Aside0 (r = false) := ⟨by
             rw [hr2.out, hi.out, hdrop.out]
             simp only [boxP]
             rw [if_neg (fun h => h.2.2.2 ⟨h3, h4⟩)]⟩
            clear hi hdrop
            clear h3 h4
            go_wp2_with (first | ((with_reducible refine gate_dst (N := 9) rfl ?_); refine bx (cs := #[.int .i64 0, .int .i64 0, .int .i64 0, .bool false]) (t := 98) fun gb hg w7 hbox hb => ?_; have n0_ := Aside0.mk (blk_below BK.out hb); have n1_ := Aside0.mk (below_step HB.out hb); have n2_ := Aside0.mk (M6.out.below hb); have n3_ := Aside0.mk (M7.out.below hb); have GB := Aside0.mk (by rw [hg]; exact HB.out.size : w.heap.size ≤ gb); have NB := Aside0.mk (by rw [hg]; exact Nat.ne_of_lt (blk_lt BK.out) : gc ≠ gb); have NB6 := Aside0.mk (by rw [hg]; exact Nat.ne_of_lt M6.out.lt : b6 ≠ gb); have NB7 := Aside0.mk (by rw [hg]; exact Nat.ne_of_lt M7.out.lt : b7 ≠ gb); have BB := Aside0.mk hbox; clear BK HB M6 M7; have BK := n0_; have HB := n1_; have M6 := n2_; have M7 := n3_; clear n0_ n1_ n2_ n3_ hbox hb hg; have hcy0 := (blk_cell BB.out 0).trans rfl; have hcy1 := (blk_cell BB.out 1).trans rfl; have hcy2 := (blk_cell BB.out 2).trans rfl; have hcy3 := (blk_cell BB.out 3).trans rfl; have hfy0 := blk_frozen BB.out 0; have hfy1 := blk_frozen BB.out 1; have hfy2 := blk_frozen BB.out 2; have hfy3 := blk_frozen BB.out 3) | ((with_reducible refine gate_store (t := 98) (p := 9) rfl ?_); refine store_event (t := 98) (p := 9) (v := ?vo) (w1 := ((((w7.setCell ⟨gb, 0, none⟩ (.int .i64 (rd_T98 l0_2 i2).f0)).setCell ⟨gb, 1, none⟩ (.int .i64 (rd_T98 l0_2 i2).f1)).setCell ⟨gb, 2, none⟩ (.int .i64 (rd_T98 l0_2 i2).f2)).setCell ⟨gb, 3, none⟩ (.bool (rd_T98 l0_2 i2).f3))) ?hg ?ho ?hn ?hr ?_; (case ho => rfl); (case hg => rfl); (case hn => rfl); (case hr => first | (go_simp; done) | (go_simp; rfl)); intro w8 hw; obtain ⟨k1_, k2_⟩ := box4 (.int .i64 (rd_T98 l0_2 i2).f0) (.int .i64 (rd_T98 l0_2 i2).f1) (.int .i64 (rd_T98 l0_2 i2).f2) (.bool (rd_T98 l0_2 i2).f3) BB.out; rw [← hw] at k1_ k2_; clear hw hcy0 hcy1 hcy2 hcy3 hfy0 hfy1 hfy2 hfy3; have n0_ := Aside0.mk (blk_grown BK.out k2_ (fun e => NB.out (Option.some.inj e))); have n1_ := Aside0.mk (pw_below_grown HB.out (some gb) HB.out.size k2_ (fun k e => by have e2 : gb = k := Option.some.inj e; rw [← e2]; exact GB.out)); have n2_ := Aside0.mk (M6.out.kept k2_ (fun e => NB6.out (Option.some.inj e))); have n3_ := Aside0.mk (M7.out.kept k2_ (fun e => NB7.out (Option.some.inj e))); clear BK HB M6 M7 BB; have BK := n0_; have HB := n1_; have M6 := n2_; have M7 := n3_; have BB := Aside0.mk k1_; clear n0_ n1_ n2_ n3_ k1_ k2_; have hcz0 := (blk_cell BK.out 0).trans rfl; have hcz1 := (blk_cell BK.out 1).trans rfl; have hcz2 := (blk_cell BK.out 2).trans rfl; have hcx0 := (blk_cell BB.out 0).trans rfl; have hcx1 := (blk_cell BB.out 1).trans rfl; have hcx2 := (blk_cell BB.out 2).trans rfl; have hcx3 := (blk_cell BB.out 3).trans rfl; have hlk : ∀ n : Nat, (Instr.lookup 100 (.map (some b7)) (.int .i64 (rd_T98 l0_2 i2).f2) false).run Try.prog (w8.drewN n) = .ok (.bool true) (w8.drewN n) := fun n => by have h_ := MapSet.look (M7.out.drewN n) Try.underlying3 Try.underlying4 Try.underlying100 (hzero _) (rd_T98 l0_2 i2).f2 (int_wf (by have := H2.out; omega)); rw [hdm] at h_; exact h_) | (go_at_call 79; (with_reducible refine (impl_within.calls (rd_T98 l0_2 i2).f1 1 (wrap64 (a0_0 - low)) true _ W1.out).mono ?_); rintro e w' ⟨rfl, ⟨nd, rfl⟩⟩) | (go_at_call 79; (with_reducible refine (impl_within.calls (rd_T98 l0_2 i2).f2 0 999 true _ W2.out).mono ?_); rintro e w' ⟨rfl, ⟨nd, rfl⟩⟩))
            go_ret
            exact ⟨by rw [hres.out]; rfl, by repeat (first | exact HB.out | apply pw_below_drewN)⟩
           ·have hdm : decide ((rd_T98 l0_2 i2).f2 ∈ ps) = false := decide_eq_false h4
            have c34 : ¬ (0 < (rd_T98 l0_2 i2).f2 ∧ (rd_T98 l0_2 i2).f2 ∈ ps) := fun h => h4 h.2
            have hnew : Aside0 (boxP a0_0 l0_2 0 [] [] = boxP a0_0 (l0_2.drop (i2 + 1).toNat) (low + (rd_T98 l0_2 i2).f1) ((rd_T98 l0_2 i2).f0 :: ls) ((rd_T98 l0_2 i2).f2 :: ps)) := ⟨by
             rw [hi.out, hdrop.out, show (i2 + 1).toNat = i2.toNat + 1 by have := hk.out.1; omega]
             simp only [boxP]
             rw [if_pos ⟨c0, H1.out, H2.out, c34⟩]⟩
            clear hi hdrop
            clear h3 h4 c34
            go_wp2_with (first | ((with_reducible refine gate_dst (N := 9) rfl ?_); refine bx (cs := #[.int .i64 0, .int .i64 0, .int .i64 0, .bool false]) (t := 98) fun gb hg w7 hbox hb => ?_; have n0_ := Aside0.mk (blk_below BK.out hb); have n1_ := Aside0.mk (below_step HB.out hb); have n2_ := Aside0.mk (M6.out.below hb); have n3_ := Aside0.mk (M7.out.below hb); have GB := Aside0.mk (by rw [hg]; exact HB.out.size : w.heap.size ≤ gb); have NB := Aside0.mk (by rw [hg]; exact Nat.ne_of_lt (blk_lt BK.out) : gc ≠ gb); have NB6 := Aside0.mk (by rw [hg]; exact Nat.ne_of_lt M6.out.lt : b6 ≠ gb); have NB7 := Aside0.mk (by rw [hg]; exact Nat.ne_of_lt M7.out.lt : b7 ≠ gb); have BB := Aside0.mk hbox; clear BK HB M6 M7; have BK := n0_; have HB := n1_; have M6 := n2_; have M7 := n3_; clear n0_ n1_ n2_ n3_ hbox hb hg; have hcy0 := (blk_cell BB.out 0).trans rfl; have hcy1 := (blk_cell BB.out 1).trans rfl; have hcy2 := (blk_cell BB.out 2).trans rfl; have hcy3 := (blk_cell BB.out 3).trans rfl; have hfy0 := blk_frozen BB.out 0; have hfy1 := blk_frozen BB.out 1; have hfy2 := blk_frozen BB.out 2; have hfy3 := blk_frozen BB.out 3) | ((with_reducible refine gate_store (t := 98) (p := 9) rfl ?_); refine store_event (t := 98) (p := 9) (v := ?vo) (w1 := ((((w7.setCell ⟨gb, 0, none⟩ (.int .i64 (rd_T98 l0_2 i2).f0)).setCell ⟨gb, 1, none⟩ (.int .i64 (rd_T98 l0_2 i2).f1)).setCell ⟨gb, 2, none⟩ (.int .i64 (rd_T98 l0_2 i2).f2)).setCell ⟨gb, 3, none⟩ (.bool (rd_T98 l0_2 i2).f3))) ?hg ?ho ?hn ?hr ?_; (case ho => rfl); (case hg => rfl); (case hn => rfl); (case hr => first | (go_simp; done) | (go_simp; rfl)); intro w8 hw; obtain ⟨k1_, k2_⟩ := box4 (.int .i64 (rd_T98 l0_2 i2).f0) (.int .i64 (rd_T98 l0_2 i2).f1) (.int .i64 (rd_T98 l0_2 i2).f2) (.bool (rd_T98 l0_2 i2).f3) BB.out; rw [← hw] at k1_ k2_; clear hw hcy0 hcy1 hcy2 hcy3 hfy0 hfy1 hfy2 hfy3; have n0_ := Aside0.mk (blk_grown BK.out k2_ (fun e => NB.out (Option.some.inj e))); have n1_ := Aside0.mk (pw_below_grown HB.out (some gb) HB.out.size k2_ (fun k e => by have e2 : gb = k := Option.some.inj e; rw [← e2]; exact GB.out)); have n2_ := Aside0.mk (M6.out.kept k2_ (fun e => NB6.out (Option.some.inj e))); have n3_ := Aside0.mk (M7.out.kept k2_ (fun e => NB7.out (Option.some.inj e))); clear BK HB M6 M7 BB; have BK := n0_; have HB := n1_; have M6 := n2_; have M7 := n3_; have BB := Aside0.mk k1_; clear n0_ n1_ n2_ n3_ k1_ k2_; have hcz0 := (blk_cell BK.out 0).trans rfl; have hcz1 := (blk_cell BK.out 1).trans rfl; have hcz2 := (blk_cell BK.out 2).trans rfl; have hcx0 := (blk_cell BB.out 0).trans rfl; have hcx1 := (blk_cell BB.out 1).trans rfl; have hcx2 := (blk_cell BB.out 2).trans rfl; have hcx3 := (blk_cell BB.out 3).trans rfl; have hlk : ∀ n : Nat, (Instr.lookup 100 (.map (some b7)) (.int .i64 (rd_T98 l0_2 i2).f2) false).run Try.prog (w8.drewN n) = .ok (.bool false) (w8.drewN n) := fun n => by have h_ := MapSet.look (M7.out.drewN n) Try.underlying3 Try.underlying4 Try.underlying100 (hzero _) (rd_T98 l0_2 i2).f2 (int_wf (by have := H2.out; omega)); rw [hdm] at h_; exact h_) | (go_at_call 79; (with_reducible refine (impl_within.calls (rd_T98 l0_2 i2).f1 1 (wrap64 (a0_0 - low)) true _ W1.out).mono ?_); rintro e w' ⟨rfl, ⟨nd, rfl⟩⟩) | (go_at_call 79; (with_reducible refine (impl_within.calls (rd_T98 l0_2 i2).f2 0 999 true _ W2.out).mono ?_); rintro e w' ⟨rfl, ⟨nd, rfl⟩⟩))
            refine wp_drewN (fun n_ => ?_)
            have n0_ := Aside0.mk (blk_drew (blk_drewN BK.out n_))
            have n1_ := Aside0.mk (show Below w.heap.size w (w8.drewN n_).drew from by apply below_drew1; apply pw_below_drewN; exact HB.out)
            have n2_ := Aside0.mk ((M6.out.drewN n_).drew)
            have n3_ := Aside0.mk ((M7.out.drewN n_).drew)
            have n4_ := Aside0.mk (blk_drew (blk_drewN BB.out n_))
            clear hcz0 hcz1 hcz2 hcx0 hcx1 hcx2 hcx3
            clear BK HB M6 M7 BB
            have BK := n0_
            have HB := n1_
            have M6 := n2_
            have M7 := n3_
            have BB := n4_
            clear n0_ n1_ n2_ n3_ n4_
            refine start_ (n := 8) (S := fun w' => w'.cell? ⟨gb, 0, none⟩ = some (.int .i64 (rd_T98 l0_2 i2).f0) ∧ w'.cell? ⟨gb, 2, none⟩ = some (.int .i64 (rd_T98 l0_2 i2).f2)) (ds := [7]) #[false, false, false, false, false, false, false, false] (by kernel_rfl) rfl rfl ⟨(blk_cell BB.out 0).trans rfl, (blk_cell BB.out 2).trans rfl⟩ (fun hHeld => ?_)
            generalize (w8.drewN n_).drew = w9 at BK HB M6 M7 BB hHeld ⊢
            refine pure_ (i := 0) (N := some 91) (v := ?_) (a' := ?_) #[true, false, false, false, false, false, false, false] rfl rfl (by kernel_rfl) (fun _ _ _ h => h) (Or.inl ⟨by rfl, ?_⟩) ?_ ?_
            rotate_left
            ·intro w'
             go_simp
             with_reducible rfl
            rotate_left
            ·simp only [Act.put, List.setIfInBounds_toArray, List.set_cons_zero, List.set_cons_succ, i64_w, i32_w]
             rfl
            refine pure_ (i := 1) (N := some 92) (v := ?_) (a' := ?_) #[true, true, false, false, false, false, false, false] rfl rfl (by kernel_rfl) (fun _ _ _ h => h) (Or.inl ⟨by rfl, ?_⟩) ?_ ?_
            rotate_left
            ·intro w'
             go_simp
             with_reducible rfl
            rotate_left
            ·simp only [Act.put, List.setIfInBounds_toArray, List.set_cons_zero, List.set_cons_succ, i64_w, i32_w]
             rfl
            refine take_ (i := 2) (N := some 93) (v := ?_) (a' := ?_) #[true, true, true, false, false, false, false, false] rfl rfl (by kernel_rfl) (fun _ _ _ h => h) (Or.inl ⟨by rfl, ?_⟩) hHeld ?_ ?_
            rotate_left
            ·rintro w' ⟨s0, s1⟩
             go_simp
             with_reducible rfl
            rotate_left
            ·simp only [Act.put, List.setIfInBounds_toArray, List.set_cons_zero, List.set_cons_succ, i64_w, i32_w]
             rfl
            refine pure_ (i := 3) (N := some 94) (v := ?_) (a' := ?_) #[true, true, true, true, false, false, false, false] rfl rfl (by kernel_rfl) (fun _ _ _ h => h) (Or.inl ⟨by rfl, ?_⟩) ?_ ?_
            rotate_left
            ·intro w'
             go_simp
             with_reducible rfl
            rotate_left
            ·simp only [Act.put, List.setIfInBounds_toArray, List.set_cons_zero, List.set_cons_succ, i64_w, i32_w]
             rfl
            refine pure_ (i := 4) (N := some 95) (v := ?_) (a' := ?_) #[true, true, true, true, true, false, false, false] rfl rfl (by kernel_rfl) (fun _ _ _ h => h) (Or.inl ⟨by rfl, ?_⟩) ?_ ?_
            rotate_left
            ·intro w'
             go_simp
             with_reducible rfl
            rotate_left
            ·simp only [Act.put, List.setIfInBounds_toArray, List.set_cons_zero, List.set_cons_succ, i64_w, i32_w]
             rfl
            refine take_ (i := 5) (N := some 96) (v := ?_) (a' := ?_) #[true, true, true, true, true, true, false, false] rfl rfl (by kernel_rfl) (fun _ _ _ h => h) (Or.inl ⟨by rfl, ?_⟩) hHeld ?_ ?_
            rotate_left
            ·rintro w' ⟨s0, s1⟩
             go_simp
             with_reducible rfl
            rotate_left
            ·simp only [Act.put, List.setIfInBounds_toArray, List.set_cons_zero, List.set_cons_succ, i64_w, i32_w]
             rfl
            obtain ⟨w10, p1_, p2_, p3_⟩ := MapSet.put M6.out Try.underlying3 Try.underlying4 Try.underlying100 (by have := hlen.out; have := hk.out; have := hlow.out; have := HH.out; unfold maxLen; omega) low (int_wf (by have := hlow.out; have := HH.out; omega))
            have n0_ := Aside0.mk (blk_grown BK.out p3_ (fun e => N6.out (Option.some.inj e)))
            have n1_ := Aside0.mk (pw_below_grown HB.out (some b6) HB.out.size p3_ (fun k e => by have e2 : b6 = k := Option.some.inj e; rw [← e2]; exact G6.out))
            have n2_ := Aside0.mk (show MapSet Try.prog 3 4 w10 b6 ((rd_T98 l0_2 i2).f0 :: ls) from by rw [c0]; exact p2_)
            have n3_ := Aside0.mk (M7.out.kept p3_ (fun e => N67.out (Option.some.inj e).symm))
            have n4_ := Aside0.mk (blk_grown BB.out p3_ (fun e => NB6.out (Option.some.inj e).symm))
            refine one_ (i := 6) (N := none) #[true, true, true, true, true, true, true, false] rfl rfl (by kernel_rfl) (by decide) (fun K hK => ?_)
            refine skip_ (w1 := w10) (by rfl) rfl ?_ ?_
            ·simp [execOp, Act.eval, p1_, Result.andThen]
            refine hK.out _ _ ⟨(blk_cell n4_.out 0).trans rfl, (blk_cell n4_.out 2).trans rfl⟩ (fun hHeld2 => ?_)
            clear hK K BK HB M6 M7 BB hHeld p1_ p2_ p3_
            have BK := n0_
            have HB := n1_
            have M6 := n2_
            have M7 := n3_
            have BB := n4_
            clear n0_ n1_ n2_ n3_ n4_ hHeld2
            obtain ⟨w11, p1_, p2_, p3_⟩ := MapSet.put M7.out Try.underlying3 Try.underlying4 Try.underlying100 (by have := hlen.out; have := hk.out; have := hlow.out; have := HH.out; unfold maxLen; omega) (rd_T98 l0_2 i2).f2 (int_wf (by have := H2.out; omega))
            have n0_ := Aside0.mk (blk_grown BK.out p3_ (fun e => N7.out (Option.some.inj e)))
            have n1_ := Aside0.mk (pw_below_grown HB.out (some b7) HB.out.size p3_ (fun k e => by have e2 : b7 = k := Option.some.inj e; rw [← e2]; exact G7.out))
            have n2_ := Aside0.mk (M6.out.kept p3_ (fun e => N67.out (Option.some.inj e)))
            have n3_ := Aside0.mk p2_
            have n4_ := Aside0.mk (blk_grown BB.out p3_ (fun e => NB7.out (Option.some.inj e).symm))
            refine last_ (i := 7) (N := none) #[true, true, true, true, true, true, true, true] rfl rfl (by kernel_rfl) (by decide) (fun K hK => ?_)
            refine skip_ (w1 := w11) (by rfl) rfl ?_ ?_
            ·simp [execOp, Act.eval, p1_, Result.andThen]
            refine hK.out _ _ ?_
            clear hK K BK HB M6 M7 BB p1_ p2_ p3_
            have BK := n0_
            have HB := n1_
            have M6 := n2_
            have M7 := n3_
            have BB := n4_
            clear n0_ n1_ n2_ n3_ n4_
            refine done_ (by kernel_rfl) ?_
            have hcx1 := (blk_cell BB.out 1).trans rfl
            have hwa : Aside0 (wrap64 (low + (rd_T98 l0_2 i2).f1) = low + (rd_T98 l0_2 i2).f1) := ⟨by have := hlow.out; have := H1.out; have := HH.out; unfold wrap64; omega⟩
            try go_wp2
            go_roundw
            case rel => exact ⟨i2 + 1, low + (rd_T98 l0_2 i2).f1, (rd_T98 l0_2 i2).f0 :: ls, (rd_T98 l0_2 i2).f2 :: ps, by rw [hwa.out], by rw [hwr.out], ⟨by have := hk.out; have := hlt2.out; omega⟩, hnew, ⟨by have := hlow.out; have := H1.out; omega⟩, ⟨by have := hlen.out; simp; omega⟩, M6, M7, BK, HB⟩
            case measure =>
             have := hk.out; have := hlt2.out
             rw [hwr.out]
             simp [intOf]
             omega
          ·have c3b : decide (0 < (rd_T98 l0_2 i2).f2) = false := decide_eq_false h3
           have c34 : ¬ (0 < (rd_T98 l0_2 i2).f2 ∧ (rd_T98 l0_2 i2).f2 ∈ ps) := fun h => h3 h.1
           have hnew : Aside0 (boxP a0_0 l0_2 0 [] [] = boxP a0_0 (l0_2.drop (i2 + 1).toNat) (low + (rd_T98 l0_2 i2).f1) ((rd_T98 l0_2 i2).f0 :: ls) ((rd_T98 l0_2 i2).f2 :: ps)) := ⟨by
            rw [hi.out, hdrop.out, show (i2 + 1).toNat = i2.toNat + 1 by have := hk.out.1; omega]
            simp only [boxP]
            rw [if_pos ⟨c0, H1.out, H2.out, c34⟩]⟩
           clear hi hdrop
           clear h3 c34
           go_wp2_with (first | ((with_reducible refine gate_dst (N := 9) rfl ?_); refine bx (cs := #[.int .i64 0, .int .i64 0, .int .i64 0, .bool false]) (t := 98) fun gb hg w7 hbox hb => ?_; have n0_ := Aside0.mk (blk_below BK.out hb); have n1_ := Aside0.mk (below_step HB.out hb); have n2_ := Aside0.mk (M6.out.below hb); have n3_ := Aside0.mk (M7.out.below hb); have GB := Aside0.mk (by rw [hg]; exact HB.out.size : w.heap.size ≤ gb); have NB := Aside0.mk (by rw [hg]; exact Nat.ne_of_lt (blk_lt BK.out) : gc ≠ gb); have NB6 := Aside0.mk (by rw [hg]; exact Nat.ne_of_lt M6.out.lt : b6 ≠ gb); have NB7 := Aside0.mk (by rw [hg]; exact Nat.ne_of_lt M7.out.lt : b7 ≠ gb); have BB := Aside0.mk hbox; clear BK HB M6 M7; have BK := n0_; have HB := n1_; have M6 := n2_; have M7 := n3_; clear n0_ n1_ n2_ n3_ hbox hb hg; have hcy0 := (blk_cell BB.out 0).trans rfl; have hcy1 := (blk_cell BB.out 1).trans rfl; have hcy2 := (blk_cell BB.out 2).trans rfl; have hcy3 := (blk_cell BB.out 3).trans rfl; have hfy0 := blk_frozen BB.out 0; have hfy1 := blk_frozen BB.out 1; have hfy2 := blk_frozen BB.out 2; have hfy3 := blk_frozen BB.out 3) | ((with_reducible refine gate_store (t := 98) (p := 9) rfl ?_); refine store_event (t := 98) (p := 9) (v := ?vo) (w1 := ((((w7.setCell ⟨gb, 0, none⟩ (.int .i64 (rd_T98 l0_2 i2).f0)).setCell ⟨gb, 1, none⟩ (.int .i64 (rd_T98 l0_2 i2).f1)).setCell ⟨gb, 2, none⟩ (.int .i64 (rd_T98 l0_2 i2).f2)).setCell ⟨gb, 3, none⟩ (.bool (rd_T98 l0_2 i2).f3))) ?hg ?ho ?hn ?hr ?_; (case ho => rfl); (case hg => rfl); (case hn => rfl); (case hr => first | (go_simp; done) | (go_simp; rfl)); intro w8 hw; obtain ⟨k1_, k2_⟩ := box4 (.int .i64 (rd_T98 l0_2 i2).f0) (.int .i64 (rd_T98 l0_2 i2).f1) (.int .i64 (rd_T98 l0_2 i2).f2) (.bool (rd_T98 l0_2 i2).f3) BB.out; rw [← hw] at k1_ k2_; clear hw hcy0 hcy1 hcy2 hcy3 hfy0 hfy1 hfy2 hfy3; have n0_ := Aside0.mk (blk_grown BK.out k2_ (fun e => NB.out (Option.some.inj e))); have n1_ := Aside0.mk (pw_below_grown HB.out (some gb) HB.out.size k2_ (fun k e => by have e2 : gb = k := Option.some.inj e; rw [← e2]; exact GB.out)); have n2_ := Aside0.mk (M6.out.kept k2_ (fun e => NB6.out (Option.some.inj e))); have n3_ := Aside0.mk (M7.out.kept k2_ (fun e => NB7.out (Option.some.inj e))); clear BK HB M6 M7 BB; have BK := n0_; have HB := n1_; have M6 := n2_; have M7 := n3_; have BB := Aside0.mk k1_; clear n0_ n1_ n2_ n3_ k1_ k2_; have hcz0 := (blk_cell BK.out 0).trans rfl; have hcz1 := (blk_cell BK.out 1).trans rfl; have hcz2 := (blk_cell BK.out 2).trans rfl; have hcx0 := (blk_cell BB.out 0).trans rfl; have hcx1 := (blk_cell BB.out 1).trans rfl; have hcx2 := (blk_cell BB.out 2).trans rfl; have hcx3 := (blk_cell BB.out 3).trans rfl) | (go_at_call 79; (with_reducible refine (impl_within.calls (rd_T98 l0_2 i2).f1 1 (wrap64 (a0_0 - low)) true _ W1.out).mono ?_); rintro e w' ⟨rfl, ⟨nd, rfl⟩⟩) | (go_at_call 79; (with_reducible refine (impl_within.calls (rd_T98 l0_2 i2).f2 0 999 true _ W2.out).mono ?_); rintro e w' ⟨rfl, ⟨nd, rfl⟩⟩))
           refine wp_drewN (fun n_ => ?_)
           have n0_ := Aside0.mk (blk_drew (blk_drewN BK.out n_))
           have n1_ := Aside0.mk (show Below w.heap.size w (w8.drewN n_).drew from by apply below_drew1; apply pw_below_drewN; exact HB.out)
           have n2_ := Aside0.mk ((M6.out.drewN n_).drew)
           have n3_ := Aside0.mk ((M7.out.drewN n_).drew)
           have n4_ := Aside0.mk (blk_drew (blk_drewN BB.out n_))
           clear hcz0 hcz1 hcz2 hcx0 hcx1 hcx2 hcx3
           clear BK HB M6 M7 BB
           have BK := n0_
           have HB := n1_
           have M6 := n2_
           have M7 := n3_
           have BB := n4_
           clear n0_ n1_ n2_ n3_ n4_
           refine start_ (n := 8) (S := fun w' => w'.cell? ⟨gb, 0, none⟩ = some (.int .i64 (rd_T98 l0_2 i2).f0) ∧ w'.cell? ⟨gb, 2, none⟩ = some (.int .i64 (rd_T98 l0_2 i2).f2)) (ds := [7]) #[false, false, false, false, false, false, false, false] (by kernel_rfl) rfl rfl ⟨(blk_cell BB.out 0).trans rfl, (blk_cell BB.out 2).trans rfl⟩ (fun hHeld => ?_)
           generalize (w8.drewN n_).drew = w9 at BK HB M6 M7 BB hHeld ⊢
           refine pure_ (i := 0) (N := some 91) (v := ?_) (a' := ?_) #[true, false, false, false, false, false, false, false] rfl rfl (by kernel_rfl) (fun _ _ _ h => h) (Or.inl ⟨by rfl, ?_⟩) ?_ ?_
           rotate_left
           ·intro w'
            go_simp
            with_reducible rfl
           rotate_left
           ·simp only [Act.put, List.setIfInBounds_toArray, List.set_cons_zero, List.set_cons_succ, i64_w, i32_w]
            rfl
           refine pure_ (i := 1) (N := some 92) (v := ?_) (a' := ?_) #[true, true, false, false, false, false, false, false] rfl rfl (by kernel_rfl) (fun _ _ _ h => h) (Or.inl ⟨by rfl, ?_⟩) ?_ ?_
           rotate_left
           ·intro w'
            go_simp
            with_reducible rfl
           rotate_left
           ·simp only [Act.put, List.setIfInBounds_toArray, List.set_cons_zero, List.set_cons_succ, i64_w, i32_w]
            rfl
           refine take_ (i := 2) (N := some 93) (v := ?_) (a' := ?_) #[true, true, true, false, false, false, false, false] rfl rfl (by kernel_rfl) (fun _ _ _ h => h) (Or.inl ⟨by rfl, ?_⟩) hHeld ?_ ?_
           rotate_left
           ·rintro w' ⟨s0, s1⟩
            go_simp
            with_reducible rfl
           rotate_left
           ·simp only [Act.put, List.setIfInBounds_toArray, List.set_cons_zero, List.set_cons_succ, i64_w, i32_w]
            rfl
           refine pure_ (i := 3) (N := some 94) (v := ?_) (a' := ?_) #[true, true, true, true, false, false, false, false] rfl rfl (by kernel_rfl) (fun _ _ _ h => h) (Or.inl ⟨by rfl, ?_⟩) ?_ ?_
           rotate_left
           ·intro w'
            go_simp
            with_reducible rfl
           rotate_left
           ·simp only [Act.put, List.setIfInBounds_toArray, List.set_cons_zero, List.set_cons_succ, i64_w, i32_w]
            rfl
           refine pure_ (i := 4) (N := some 95) (v := ?_) (a' := ?_) #[true, true, true, true, true, false, false, false] rfl rfl (by kernel_rfl) (fun _ _ _ h => h) (Or.inl ⟨by rfl, ?_⟩) ?_ ?_
           rotate_left
           ·intro w'
            go_simp
            with_reducible rfl
           rotate_left
           ·simp only [Act.put, List.setIfInBounds_toArray, List.set_cons_zero, List.set_cons_succ, i64_w, i32_w]
            rfl
           refine take_ (i := 5) (N := some 96) (v := ?_) (a' := ?_) #[true, true, true, true, true, true, false, false] rfl rfl (by kernel_rfl) (fun _ _ _ h => h) (Or.inl ⟨by rfl, ?_⟩) hHeld ?_ ?_
           rotate_left
           ·rintro w' ⟨s0, s1⟩
            go_simp
            with_reducible rfl
           rotate_left
           ·simp only [Act.put, List.setIfInBounds_toArray, List.set_cons_zero, List.set_cons_succ, i64_w, i32_w]
            rfl
           obtain ⟨w10, p1_, p2_, p3_⟩ := MapSet.put M6.out Try.underlying3 Try.underlying4 Try.underlying100 (by have := hlen.out; have := hk.out; have := hlow.out; have := HH.out; unfold maxLen; omega) low (int_wf (by have := hlow.out; have := HH.out; omega))
           have n0_ := Aside0.mk (blk_grown BK.out p3_ (fun e => N6.out (Option.some.inj e)))
           have n1_ := Aside0.mk (pw_below_grown HB.out (some b6) HB.out.size p3_ (fun k e => by have e2 : b6 = k := Option.some.inj e; rw [← e2]; exact G6.out))
           have n2_ := Aside0.mk (show MapSet Try.prog 3 4 w10 b6 ((rd_T98 l0_2 i2).f0 :: ls) from by rw [c0]; exact p2_)
           have n3_ := Aside0.mk (M7.out.kept p3_ (fun e => N67.out (Option.some.inj e).symm))
           have n4_ := Aside0.mk (blk_grown BB.out p3_ (fun e => NB6.out (Option.some.inj e).symm))
           refine one_ (i := 6) (N := none) #[true, true, true, true, true, true, true, false] rfl rfl (by kernel_rfl) (by decide) (fun K hK => ?_)
           refine skip_ (w1 := w10) (by rfl) rfl ?_ ?_
           ·simp [execOp, Act.eval, p1_, Result.andThen]
           refine hK.out _ _ ⟨(blk_cell n4_.out 0).trans rfl, (blk_cell n4_.out 2).trans rfl⟩ (fun hHeld2 => ?_)
           clear hK K BK HB M6 M7 BB hHeld p1_ p2_ p3_
           have BK := n0_
           have HB := n1_
           have M6 := n2_
           have M7 := n3_
           have BB := n4_
           clear n0_ n1_ n2_ n3_ n4_ hHeld2
           obtain ⟨w11, p1_, p2_, p3_⟩ := MapSet.put M7.out Try.underlying3 Try.underlying4 Try.underlying100 (by have := hlen.out; have := hk.out; have := hlow.out; have := HH.out; unfold maxLen; omega) (rd_T98 l0_2 i2).f2 (int_wf (by have := H2.out; omega))
           have n0_ := Aside0.mk (blk_grown BK.out p3_ (fun e => N7.out (Option.some.inj e)))
           have n1_ := Aside0.mk (pw_below_grown HB.out (some b7) HB.out.size p3_ (fun k e => by have e2 : b7 = k := Option.some.inj e; rw [← e2]; exact G7.out))
           have n2_ := Aside0.mk (M6.out.kept p3_ (fun e => N67.out (Option.some.inj e)))
           have n3_ := Aside0.mk p2_
           have n4_ := Aside0.mk (blk_grown BB.out p3_ (fun e => NB7.out (Option.some.inj e).symm))
           refine last_ (i := 7) (N := none) #[true, true, true, true, true, true, true, true] rfl rfl (by kernel_rfl) (by decide) (fun K hK => ?_)
           refine skip_ (w1 := w11) (by rfl) rfl ?_ ?_
           ·simp [execOp, Act.eval, p1_, Result.andThen]
           refine hK.out _ _ ?_
           clear hK K BK HB M6 M7 BB p1_ p2_ p3_
           have BK := n0_
           have HB := n1_
           have M6 := n2_
           have M7 := n3_
           have BB := n4_
           clear n0_ n1_ n2_ n3_ n4_
           refine done_ (by kernel_rfl) ?_
           have hcx1 := (blk_cell BB.out 1).trans rfl
           have hwa : Aside0 (wrap64 (low + (rd_T98 l0_2 i2).f1) = low + (rd_T98 l0_2 i2).f1) := ⟨by have := hlow.out; have := H1.out; have := HH.out; unfold wrap64; omega⟩
           try go_wp2
           go_roundw
           case rel => exact ⟨i2 + 1, low + (rd_T98 l0_2 i2).f1, (rd_T98 l0_2 i2).f0 :: ls, (rd_T98 l0_2 i2).f2 :: ps, by rw [hwa.out], by rw [hwr.out], ⟨by have := hk.out; have := hlt2.out; omega⟩, hnew, ⟨by have := hlow.out; have := H1.out; omega⟩, ⟨by have := hlen.out; simp; omega⟩, M6, M7, BK, HB⟩
           case measure =>
            have := hk.out; have := hlt2.out
            rw [hwr.out]
            simp [intOf]
            omega
         ·have W2 : Aside0 (impl_within.f (rd_T98 l0_2 i2).f2 0 999 = some false) := ⟨by rw [within_is, decide_eq_false h2]⟩
          have hres : Aside0 (r = false) := ⟨by
           rw [hr2.out, hi.out, hdrop.out]
           simp only [boxP]
           rw [if_neg (fun h => h2 h.2.2.1)]⟩
          clear hi hdrop
          clear h2
          go_wp2_with (first | ((with_reducible refine gate_dst (N := 9) rfl ?_); refine bx (cs := #[.int .i64 0, .int .i64 0, .int .i64 0, .bool false]) (t := 98) fun gb hg w7 hbox hb => ?_; have n0_ := Aside0.mk (blk_below BK.out hb); have n1_ := Aside0.mk (below_step HB.out hb); have n2_ := Aside0.mk (M6.out.below hb); have n3_ := Aside0.mk (M7.out.below hb); have GB := Aside0.mk (by rw [hg]; exact HB.out.size : w.heap.size ≤ gb); have NB := Aside0.mk (by rw [hg]; exact Nat.ne_of_lt (blk_lt BK.out) : gc ≠ gb); have NB6 := Aside0.mk (by rw [hg]; exact Nat.ne_of_lt M6.out.lt : b6 ≠ gb); have NB7 := Aside0.mk (by rw [hg]; exact Nat.ne_of_lt M7.out.lt : b7 ≠ gb); have BB := Aside0.mk hbox; clear BK HB M6 M7; have BK := n0_; have HB := n1_; have M6 := n2_; have M7 := n3_; clear n0_ n1_ n2_ n3_ hbox hb hg; have hcy0 := (blk_cell BB.out 0).trans rfl; have hcy1 := (blk_cell BB.out 1).trans rfl; have hcy2 := (blk_cell BB.out 2).trans rfl; have hcy3 := (blk_cell BB.out 3).trans rfl; have hfy0 := blk_frozen BB.out 0; have hfy1 := blk_frozen BB.out 1; have hfy2 := blk_frozen BB.out 2; have hfy3 := blk_frozen BB.out 3) | ((with_reducible refine gate_store (t := 98) (p := 9) rfl ?_); refine store_event (t := 98) (p := 9) (v := ?vo) (w1 := ((((w7.setCell ⟨gb, 0, none⟩ (.int .i64 (rd_T98 l0_2 i2).f0)).setCell ⟨gb, 1, none⟩ (.int .i64 (rd_T98 l0_2 i2).f1)).setCell ⟨gb, 2, none⟩ (.int .i64 (rd_T98 l0_2 i2).f2)).setCell ⟨gb, 3, none⟩ (.bool (rd_T98 l0_2 i2).f3))) ?hg ?ho ?hn ?hr ?_; (case ho => rfl); (case hg => rfl); (case hn => rfl); (case hr => first | (go_simp; done) | (go_simp; rfl)); intro w8 hw; obtain ⟨k1_, k2_⟩ := box4 (.int .i64 (rd_T98 l0_2 i2).f0) (.int .i64 (rd_T98 l0_2 i2).f1) (.int .i64 (rd_T98 l0_2 i2).f2) (.bool (rd_T98 l0_2 i2).f3) BB.out; rw [← hw] at k1_ k2_; clear hw hcy0 hcy1 hcy2 hcy3 hfy0 hfy1 hfy2 hfy3; have n0_ := Aside0.mk (blk_grown BK.out k2_ (fun e => NB.out (Option.some.inj e))); have n1_ := Aside0.mk (pw_below_grown HB.out (some gb) HB.out.size k2_ (fun k e => by have e2 : gb = k := Option.some.inj e; rw [← e2]; exact GB.out)); have n2_ := Aside0.mk (M6.out.kept k2_ (fun e => NB6.out (Option.some.inj e))); have n3_ := Aside0.mk (M7.out.kept k2_ (fun e => NB7.out (Option.some.inj e))); clear BK HB M6 M7 BB; have BK := n0_; have HB := n1_; have M6 := n2_; have M7 := n3_; have BB := Aside0.mk k1_; clear n0_ n1_ n2_ n3_ k1_ k2_; have hcz0 := (blk_cell BK.out 0).trans rfl; have hcz1 := (blk_cell BK.out 1).trans rfl; have hcz2 := (blk_cell BK.out 2).trans rfl; have hcx0 := (blk_cell BB.out 0).trans rfl; have hcx1 := (blk_cell BB.out 1).trans rfl; have hcx2 := (blk_cell BB.out 2).trans rfl; have hcx3 := (blk_cell BB.out 3).trans rfl) | (go_at_call 79; (with_reducible refine (impl_within.calls (rd_T98 l0_2 i2).f1 1 (wrap64 (a0_0 - low)) true _ W1.out).mono ?_); rintro e w' ⟨rfl, ⟨nd, rfl⟩⟩) | (go_at_call 79; (with_reducible refine (impl_within.calls (rd_T98 l0_2 i2).f2 0 999 false _ W2.out).mono ?_); rintro e w' ⟨rfl, ⟨nd, rfl⟩⟩))
          go_ret
          exact ⟨by rw [hres.out]; rfl, by repeat (first | exact HB.out | apply pw_below_drewN)⟩
        ·have W1 : Aside0 (impl_within.f (rd_T98 l0_2 i2).f1 1 (wrap64 (a0_0 - low)) = some false) := ⟨by rw [within_is, hwl.out, decide_eq_false h1]⟩
         have hres : Aside0 (r = false) := ⟨by
          rw [hr2.out, hi.out, hdrop.out]
          simp only [boxP]
          rw [if_neg (fun h => h1 h.2.1)]⟩
         clear hi hdrop
         clear h1
         go_wp2_with (first | ((with_reducible refine gate_dst (N := 9) rfl ?_); refine bx (cs := #[.int .i64 0, .int .i64 0, .int .i64 0, .bool false]) (t := 98) fun gb hg w7 hbox hb => ?_; have n0_ := Aside0.mk (blk_below BK.out hb); have n1_ := Aside0.mk (below_step HB.out hb); have n2_ := Aside0.mk (M6.out.below hb); have n3_ := Aside0.mk (M7.out.below hb); have GB := Aside0.mk (by rw [hg]; exact HB.out.size : w.heap.size ≤ gb); have NB := Aside0.mk (by rw [hg]; exact Nat.ne_of_lt (blk_lt BK.out) : gc ≠ gb); have NB6 := Aside0.mk (by rw [hg]; exact Nat.ne_of_lt M6.out.lt : b6 ≠ gb); have NB7 := Aside0.mk (by rw [hg]; exact Nat.ne_of_lt M7.out.lt : b7 ≠ gb); have BB := Aside0.mk hbox; clear BK HB M6 M7; have BK := n0_; have HB := n1_; have M6 := n2_; have M7 := n3_; clear n0_ n1_ n2_ n3_ hbox hb hg; have hcy0 := (blk_cell BB.out 0).trans rfl; have hcy1 := (blk_cell BB.out 1).trans rfl; have hcy2 := (blk_cell BB.out 2).trans rfl; have hcy3 := (blk_cell BB.out 3).trans rfl; have hfy0 := blk_frozen BB.out 0; have hfy1 := blk_frozen BB.out 1; have hfy2 := blk_frozen BB.out 2; have hfy3 := blk_frozen BB.out 3) | ((with_reducible refine gate_store (t := 98) (p := 9) rfl ?_); refine store_event (t := 98) (p := 9) (v := ?vo) (w1 := ((((w7.setCell ⟨gb, 0, none⟩ (.int .i64 (rd_T98 l0_2 i2).f0)).setCell ⟨gb, 1, none⟩ (.int .i64 (rd_T98 l0_2 i2).f1)).setCell ⟨gb, 2, none⟩ (.int .i64 (rd_T98 l0_2 i2).f2)).setCell ⟨gb, 3, none⟩ (.bool (rd_T98 l0_2 i2).f3))) ?hg ?ho ?hn ?hr ?_; (case ho => rfl); (case hg => rfl); (case hn => rfl); (case hr => first | (go_simp; done) | (go_simp; rfl)); intro w8 hw; obtain ⟨k1_, k2_⟩ := box4 (.int .i64 (rd_T98 l0_2 i2).f0) (.int .i64 (rd_T98 l0_2 i2).f1) (.int .i64 (rd_T98 l0_2 i2).f2) (.bool (rd_T98 l0_2 i2).f3) BB.out; rw [← hw] at k1_ k2_; clear hw hcy0 hcy1 hcy2 hcy3 hfy0 hfy1 hfy2 hfy3; have n0_ := Aside0.mk (blk_grown BK.out k2_ (fun e => NB.out (Option.some.inj e))); have n1_ := Aside0.mk (pw_below_grown HB.out (some gb) HB.out.size k2_ (fun k e => by have e2 : gb = k := Option.some.inj e; rw [← e2]; exact GB.out)); have n2_ := Aside0.mk (M6.out.kept k2_ (fun e => NB6.out (Option.some.inj e))); have n3_ := Aside0.mk (M7.out.kept k2_ (fun e => NB7.out (Option.some.inj e))); clear BK HB M6 M7 BB; have BK := n0_; have HB := n1_; have M6 := n2_; have M7 := n3_; have BB := Aside0.mk k1_; clear n0_ n1_ n2_ n3_ k1_ k2_; have hcz0 := (blk_cell BK.out 0).trans rfl; have hcz1 := (blk_cell BK.out 1).trans rfl; have hcz2 := (blk_cell BK.out 2).trans rfl; have hcx0 := (blk_cell BB.out 0).trans rfl; have hcx1 := (blk_cell BB.out 1).trans rfl; have hcx2 := (blk_cell BB.out 2).trans rfl; have hcx3 := (blk_cell BB.out 3).trans rfl) | (go_at_call 79; (with_reducible refine (impl_within.calls (rd_T98 l0_2 i2).f1 1 (wrap64 (a0_0 - low)) false _ W1.out).mono ?_); rintro e w' ⟨rfl, ⟨nd, rfl⟩⟩))
         go_ret
         exact ⟨by rw [hres.out]; rfl, by repeat (first | exact HB.out | apply pw_below_drewN)⟩
       ·have c0b : ((rd_T98 l0_2 i2).f0 != low) = true := by simpa using c0
        have hres : Aside0 (r = false) := ⟨by
         rw [hr2.out, hi.out, hdrop.out]
         simp only [boxP]
         rw [if_neg (fun h => c0 h.1)]⟩
        clear c0 hi hdrop
        go_wp2_with (first | ((with_reducible refine gate_dst (N := 9) rfl ?_); refine bx (cs := #[.int .i64 0, .int .i64 0, .int .i64 0, .bool false]) (t := 98) fun gb hg w7 hbox hb => ?_; have n0_ := Aside0.mk (blk_below BK.out hb); have n1_ := Aside0.mk (below_step HB.out hb); have n2_ := Aside0.mk (M6.out.below hb); have n3_ := Aside0.mk (M7.out.below hb); have GB := Aside0.mk (by rw [hg]; exact HB.out.size : w.heap.size ≤ gb); have NB := Aside0.mk (by rw [hg]; exact Nat.ne_of_lt (blk_lt BK.out) : gc ≠ gb); have NB6 := Aside0.mk (by rw [hg]; exact Nat.ne_of_lt M6.out.lt : b6 ≠ gb); have NB7 := Aside0.mk (by rw [hg]; exact Nat.ne_of_lt M7.out.lt : b7 ≠ gb); have BB := Aside0.mk hbox; clear BK HB M6 M7; have BK := n0_; have HB := n1_; have M6 := n2_; have M7 := n3_; clear n0_ n1_ n2_ n3_ hbox hb hg; have hcy0 := (blk_cell BB.out 0).trans rfl; have hcy1 := (blk_cell BB.out 1).trans rfl; have hcy2 := (blk_cell BB.out 2).trans rfl; have hcy3 := (blk_cell BB.out 3).trans rfl; have hfy0 := blk_frozen BB.out 0; have hfy1 := blk_frozen BB.out 1; have hfy2 := blk_frozen BB.out 2; have hfy3 := blk_frozen BB.out 3) | ((with_reducible refine gate_store (t := 98) (p := 9) rfl ?_); refine store_event (t := 98) (p := 9) (v := ?vo) (w1 := ((((w7.setCell ⟨gb, 0, none⟩ (.int .i64 (rd_T98 l0_2 i2).f0)).setCell ⟨gb, 1, none⟩ (.int .i64 (rd_T98 l0_2 i2).f1)).setCell ⟨gb, 2, none⟩ (.int .i64 (rd_T98 l0_2 i2).f2)).setCell ⟨gb, 3, none⟩ (.bool (rd_T98 l0_2 i2).f3))) ?hg ?ho ?hn ?hr ?_; (case ho => rfl); (case hg => rfl); (case hn => rfl); (case hr => first | (go_simp; done) | (go_simp; rfl)); intro w8 hw; obtain ⟨k1_, k2_⟩ := box4 (.int .i64 (rd_T98 l0_2 i2).f0) (.int .i64 (rd_T98 l0_2 i2).f1) (.int .i64 (rd_T98 l0_2 i2).f2) (.bool (rd_T98 l0_2 i2).f3) BB.out; rw [← hw] at k1_ k2_; clear hw hcy0 hcy1 hcy2 hcy3 hfy0 hfy1 hfy2 hfy3; have n0_ := Aside0.mk (blk_grown BK.out k2_ (fun e => NB.out (Option.some.inj e))); have n1_ := Aside0.mk (pw_below_grown HB.out (some gb) HB.out.size k2_ (fun k e => by have e2 : gb = k := Option.some.inj e; rw [← e2]; exact GB.out)); have n2_ := Aside0.mk (M6.out.kept k2_ (fun e => NB6.out (Option.some.inj e))); have n3_ := Aside0.mk (M7.out.kept k2_ (fun e => NB7.out (Option.some.inj e))); clear BK HB M6 M7 BB; have BK := n0_; have HB := n1_; have M6 := n2_; have M7 := n3_; have BB := Aside0.mk k1_; clear n0_ n1_ n2_ n3_ k1_ k2_; have hcz0 := (blk_cell BK.out 0).trans rfl; have hcz1 := (blk_cell BK.out 1).trans rfl; have hcz2 := (blk_cell BK.out 2).trans rfl; have hcx0 := (blk_cell BB.out 0).trans rfl; have hcx1 := (blk_cell BB.out 1).trans rfl; have hcx2 := (blk_cell BB.out 2).trans rfl; have hcx3 := (blk_cell BB.out 3).trans rfl))
        go_ret
        exact ⟨by rw [hres.out]; rfl, by repeat (first | exact HB.out | apply pw_below_drewN)⟩
      ·have hltb : decide (i2 < (l0_2.length : Int)) = false := decide_eq_false hlt
       have hr3 : Aside0 (r = (l0_1.all (fun f => decide (f ∈ ls)) && decide (low = a0_0))) := ⟨by
        rw [hr2.out, hi.out, List.drop_eq_nil_of_le (by omega)]
        simp only [boxP]⟩
       have hcz0 := (blk_cell BK.out 0).trans rfl
       have hcz1 := (blk_cell BK.out 1).trans rfl
       have hcz2 := (blk_cell BK.out 2).trans rfl
       clear hlt hi hk hlen M7
       go_wp2
       clear hcz0 hcz1 hcz2
       go_loopw [105] (fun v105 wr => ∃ i3 : Int, v105 = .int .i64 i3 ∧ Aside0 (0 ≤ i3 ∧ i3 ≤ l0_1.length) ∧ Aside0 (r = ((l0_1.drop i3.toNat).all (fun f => decide (f ∈ ls)) && decide (low = a0_0))) ∧ Aside0 (MapSet Try.prog 3 4 wr b6 ls) ∧ Aside0 (wr.heap[gc]? = some (.cells #[.int .i64 a0_0, .slice A0_1 l0_1.length c0_1, .slice A0_2 l0_2.length c0_2] 41 (0, 0))) ∧ Aside0 (Below w.heap.size w wr)) (fun v105 _ => l0_1.length - (intOf v105).toNat)
       case atStart => exact ⟨0, rfl, ⟨by omega⟩, hr3, M6, BK, HB⟩
       case round =>
        clear M6 BK HB hr3
        obtain ⟨i3, rfl, hk3, hr3, M6, BK, HB⟩ := hrel
        have hcz0 := (blk_cell BK.out 0).trans rfl
        have hcz1 := (blk_cell BK.out 1).trans rfl
        have hcz2 := (blk_cell BK.out 2).trans rfl
        by_cases hlt3 : i3 < (l0_1.length : Int)
        ·have hdrop3 : Aside0 (l0_1.drop i3.toNat = rd l0_1 i3 :: l0_1.drop (i3.toNat + 1)) := ⟨by
          have hn : i3.toNat < l0_1.length := by have := hk3.out.1; omega
          rw [List.drop_eq_getElem_cons hn]
          unfold rd
          rw [List.getD_eq_getElem?_getD, List.getElem?_eq_getElem hn]; rfl⟩
         obtain ⟨ad3, e1, h0⟩ := Kd.at_int HR1.out i3 hk3.out.1 hlt3
         subst e1
         replace h0 := (HB.out.cell (World.block_lt_of_cell? w _ h0)).trans h0
         have q0 := eq_true hk3.out.1
         have q1 := eq_true hlt3
         have hltb3 : decide (i3 < (l0_1.length : Int)) = true := decide_eq_true hlt3
         have hwr3 : Aside0 (wrap64 (i3 + 1) = i3 + 1) := ⟨by have := hk3.out; have := L1.out; unfold wrap64; omega⟩
         have hf3 : Aside0 (1 ≤ rd l0_1 i3 ∧ rd l0_1 i3 ≤ a0_0 - 1) := ⟨fix_in a0_0 l0_1 none hfix.out _ (List.mem_of_mem_drop (hdrop3.out ▸ List.mem_cons_self))⟩
         have hlt32 := Aside0.mk hlt3
         clear hlt3
         have hlk := MapSet.look M6.out Try.underlying3 Try.underlying4 Try.underlying100 (hzero _) (rd l0_1 i3) (int_wf (by have := hf3.out; have := HH.out; omega))
         by_cases hm : rd l0_1 i3 ∈ ls
         ·rw [decide_eq_true hm] at hlk
          have hres : Aside0 (r = ((l0_1.drop (i3 + 1).toNat).all (fun f => decide (f ∈ ls)) && decide (low = a0_0))) := ⟨by
           rw [hr3.out, hdrop3.out, show (i3 + 1).toNat = i3.toNat + 1 by have := hk3.out.1; omega, List.all_cons, decide_eq_true hm, Bool.true_and]⟩
          clear hr3 hdrop3 hm
          go_wp2
          go_roundw
          case rel => exact ⟨i3 + 1, by rw [hwr3.out], ⟨by have := hk3.out; have := hlt32.out; omega⟩, hres, M6, BK, HB⟩
          case measure =>
           have := hk3.out; have := hlt32.out
           rw [hwr3.out]
           simp [intOf]
           omega
         ·rw [decide_eq_false hm] at hlk
          have hres : Aside0 (r = false) := ⟨by
           rw [hr3.out, hdrop3.out, List.all_cons, decide_eq_false hm, Bool.false_and, Bool.false_and]⟩
          clear hr3 hdrop3 hm
          go_wp2
          go_ret
          exact ⟨by rw [hres.out]; rfl, HB.out⟩
        ·have hltb3 : decide (i3 < (l0_1.length : Int)) = false := decide_eq_false hlt3
         have hres : Aside0 (r = decide (low = a0_0)) := ⟨by
          rw [hr3.out, List.drop_eq_nil_of_le (by omega), List.all_nil, Bool.true_and]⟩
         clear hr3 hlt3
         go_wp2
         go_ret
         exact ⟨by rw [hres.out]; rfl, HB.out⟩
 ·have hW : Aside0 (impl_within.f a0_0 1 24 = some false) := ⟨by rw [within_is, decide_eq_false hh]⟩
  have hr1 : Aside0 (r = false) := ⟨by rw [← hrE.out]; unfold colP; rw [decide_eq_false hh]; rfl⟩
  clear hh hrE
  go_enter Try.func34, Try.ntmps34
  go_wp2_with (first | ((with_reducible refine gate_dst (N := 1) rfl ?_); refine bx (cs := #[.int .i64 a0_0, .slice A0_1 l0_1.length c0_1, .slice A0_2 l0_2.length c0_2]) (t := 41) fun gc hg w2 hbox hb => ?_; have HB2 := Aside0.mk (below_step HB.out hb); have BK := Aside0.mk hbox; have GE := Aside0.mk (by rw [hg]; exact Nat.le_refl _ : w.heap.size ≤ gc); clear HB hb hbox hg; have hcz0 := (blk_cell BK.out 0).trans rfl; have hcz1 := (blk_cell BK.out 1).trans rfl; have hcz2 := (blk_cell BK.out 2).trans rfl) | (go_at_call 79; (with_reducible refine (impl_within.calls a0_0 1 24 false _ hW.out).mono ?_); rintro e w' ⟨rfl, ⟨nd, rfl⟩⟩))
  go_ret
  exact ⟨by rw [hr1.out]; rfl, by repeat (first | exact HB2.out | apply pw_below_drewN)⟩
end Go.Proofs.Ytbpjidekjogfeaa.A

namespace Go.Proofs.Ytbpjidekjogfeaa.A
open Go.RowKit Go.Proofs.YtbpjidekjogfeaaW.PrintWords Go.Proofs.YtbpjidekjogfeaaW.PrintLast Go.Proofs.YtbpjidekjogfeaaW.PrintMore
attribute [local go_sem] max2_int min2_int max_two min_two max_three min_three max_four min_four   
set_option linter.unusedVariables false
set_option linter.unusedSimpArgs false
def parP : List S98 → List Int → Option (List Int)
 | [], ps => some ps
 | b :: bs, ps => if 0 < b.f2 ∧ b.f2 ∈ ps then none else parP bs (b.f2 :: ps)
def bankL : List S41 → List Int → Bool
 | [], _ => true
 | c :: cs, ps => colP c.f0 c.f1 c.f2 && (match parP c.f2 ps with | none => false | some qs => bankL cs qs)
def bankP (cs : List S41) : Bool := decide (1 ≤ (cs.length : Int) ∧ (cs.length : Int) ≤ 6) && bankL cs []
theorem col3 {W : World} {g : Nat} {t : TypeId} {a b c : Value} (v0 v1 v2 : Value) (h : W.heap[g]? = some (.cells #[a, b, c] t (0, 0))) :
  (((W.setCell ⟨g, 0, none⟩ v0).setCell ⟨g, 1, none⟩ v1).setCell ⟨g, 2, none⟩ v2).heap[g]? = some (.cells #[v0, v1, v2] t (0, 0)) ∧
  W.grownBy (((W.setCell ⟨g, 0, none⟩ v0).setCell ⟨g, 1, none⟩ v1).setCell ⟨g, 2, none⟩ v2) (some g) := by
 refine ⟨blk_set (blk_set (blk_set h 0 v0) 1 v1) 2 v2, rfl, rfl, rfl, ?_, fun k _ hk => ?_⟩
 ·simp [World.setCell]
 ·have hk' : k ≠ g := fun e => hk (by rw [e])
  rw [Below.heap_setCell _ _ _ _ hk', Below.heap_setCell _ _ _ _ hk', Below.heap_setCell _ _ _ _ hk']
theorem boxP_in (h : Int) : ∀ (bs : List S98) (low : Int) (ls ps : List Int) (z : Int × List Int), low ≤ h → boxP h bs low ls ps = some z → (bs.length : Int) ≤ h - low ∧ ∀ b ∈ bs, 0 ≤ b.f2 ∧ b.f2 ≤ 999
 | [], low, ls, ps, z, hl, e => ⟨by simp; omega, by simp⟩
 | b :: bs, low, ls, ps, z, hl, e => by
  simp only [boxP] at e
  split at e
  ·next hc =>
   obtain ⟨h1, h2⟩ := boxP_in h bs _ _ _ _ (by omega) e
   refine ⟨by simp; omega, fun x hx => ?_⟩
   rcases List.mem_cons.mp hx with rfl | hx
   ·exact hc.2.2.1
   ·exact h2 x hx
  ·simp at e
theorem colP_in (h : Int) (fx : List Int) (bx : List S98) (e : colP h fx bx = true) : (bx.length : Int) ≤ 24 ∧ ∀ b ∈ bx, 0 ≤ b.f2 ∧ b.f2 ≤ 999 := by
 unfold colP at e
 simp only [Bool.and_eq_true, decide_eq_true_eq] at e
 cases hb : boxP h bx 0 [] [] with
 | none => rw [hb] at e; simp at e
 | some z =>
  obtain ⟨h1, h2⟩ := boxP_in h bx 0 [] [] z (by omega) hb
  exact ⟨by omega, h2⟩
def impl_BankOk.f (l0 : List (S41)) : Option (Bool) := some (bankP l0)
set_option maxHeartbeats 8000000 in
set_option maxRecDepth 100000 in
theorem impl_BankOk.calls (A0 : Option Addr) (c0 : Nat) (l0 : List (S41)) (r : Bool) (w : World) (hr0 : Kd.C k41 w A0 l0.length l0) (hc0 : l0.length ≤ c0) (h : impl_BankOk.f l0 = some r) :
  Calls Try.prog 51 #[.slice A0 l0.length c0] w fun e w' => e = .returned (.bool r) ∧ Below w.heap.size w w' := by
 have hrE : Aside0 (bankP l0 = r) := ⟨Option.some.inj h⟩
 have HR := Aside0.mk hr0
 have L0 := Aside0.mk hr0.2.1
 clear h hr0 hc0
 have hu30 := Try.underlying41
 have hu71 := Try.underlying98
 have HB := Aside0.mk (Below.refl w.heap.size w)
 by_cases hh : 1 ≤ (l0.length : Int) ∧ (l0.length : Int) ≤ 6
 ·have hW : Aside0 (impl_within.f (l0.length : Int) 1 6 = some true) := ⟨by rw [within_is, decide_eq_true hh]⟩
  have hr1 : Aside0 (r = bankL l0 []) := ⟨by rw [← hrE.out]; unfold bankP; rw [decide_eq_true hh, Bool.true_and]⟩
  have hL6 := Aside0.mk hh
  clear hh hrE
  have hzero : ∀ W : World, (zeroValue 4).run Try.prog W = .ok (.bool false) W := fun W => by kernel_rfl
  go_enter Try.func51, Try.ntmps51
  go_wp2_with (first | (go_at_call 79; (with_reducible refine (impl_within.calls ((l0.length : Int)) 1 6 true _ hW.out).mono ?_); rintro e w' ⟨rfl, ⟨nd, rfl⟩⟩) | ((with_reducible refine gate_dst (N := 12) rfl ?_); refine map_event 3 4 ?hg (N := 12) ?hd 100 ?ho ?_; (case hd => rfl); (case hg => rfl); (case ho => rfl); intro b3 hg w3 hm hb; have M := Aside0.mk hm; have n1_ := Aside0.mk (below_step (show Below w.heap.size w _ from by repeat (first | exact HB.out | apply pw_below_drewN)) hb); have G3 := Aside0.mk (by rw [hg]; exact (show Below w.heap.size w _ from by repeat (first | exact HB.out | apply pw_below_drewN)).size : w.heap.size ≤ b3); clear HB; have HB := n1_; clear n1_ hm hg hb))
  go_loopw [15] (fun v15 wr => ∃ (i : Int) (ps : List Int), v15 = .int .i64 i ∧ Aside0 (0 ≤ i ∧ i ≤ l0.length) ∧ Aside0 (r = bankL (l0.drop i.toNat) ps) ∧ Aside0 ((ps.length : Int) ≤ 24 * i) ∧ Aside0 (MapSet Try.prog 3 4 wr b3 ps) ∧ Aside0 (Below w.heap.size w wr)) (fun v15 _ => l0.length - (intOf v15).toNat)
  case atStart => exact ⟨0, [], rfl, ⟨by omega⟩, hr1, ⟨by simp⟩, M, HB⟩
  case round =>
   clear M HB hr1
   obtain ⟨i, ps, rfl, hk, hr1, hlen, M, HB⟩ := hrel
   by_cases hlt : i < (l0.length : Int)
   ·have hdrop : Aside0 (l0.drop i.toNat = rd_T41 l0 i :: l0.drop (i.toNat + 1)) := ⟨by
     have hn : i.toNat < l0.length := by have := hk.out.1; omega
     rw [List.drop_eq_getElem_cons hn]
     unfold rd_T41
     rw [List.getD_eq_getElem?_getD, List.getElem?_eq_getElem hn]; rfl⟩
    obtain ⟨ad, A1, c1, A2, c2, e1, h0, h1, h2, l1_, g1_, l2_, g2_⟩ := at_T41 HR.out i hk.out.1 hlt
    subst e1
    have l1 := Aside0.mk l1_
    have g1 := Aside0.mk g1_
    have l2 := Aside0.mk l2_
    have g2 := Aside0.mk g2_
    have L2 := Aside0.mk g2_.2.1
    clear l1_ g1_ l2_ g2_
    replace h0 := (HB.out.cell (World.block_lt_of_cell? w _ h0)).trans h0
    replace h1 := (HB.out.cell (World.block_lt_of_cell? w _ h1)).trans h1
    replace h2 := (HB.out.cell (World.block_lt_of_cell? w _ h2)).trans h2
    have q0 := eq_true hk.out.1
    have q1 := eq_true hlt
    have hltb : decide (i < (l0.length : Int)) = true := decide_eq_true hlt
    have hwr : Aside0 (wrap64 (i + 1) = i + 1) := ⟨by have := hk.out; have := L0.out; unfold wrap64; omega⟩
    have hlt2 := Aside0.mk hlt
    clear hlt
    by_cases hc : colP (rd_T41 l0 i).f0 (rd_T41 l0 i).f1 (rd_T41 l0 i).f2 = true
    ·have WC : Aside0 (impl_ColumnOk.f (rd_T41 l0 i).f0 (rd_T41 l0 i).f1 (rd_T41 l0 i).f2 = some true) := ⟨congrArg some hc⟩
     have h24 := Aside0.mk (colP_in _ _ _ hc).1
     have hall := Aside0.mk (colP_in _ _ _ hc).2
     have hr2 : Aside0 (r = (match parP (rd_T41 l0 i).f2 ps with | none => false | some qs => bankL (l0.drop (i + 1).toNat) qs)) := ⟨by
      rw [hr1.out, hdrop.out, show (i + 1).toNat = i.toNat + 1 by have := hk.out.1; omega]
      simp only [bankL]
      rw [hc, Bool.true_and]⟩
     clear hc hr1 hdrop
     go_wp2_with (first | ((with_reducible refine gate_dst (N := 5) rfl ?_); refine box_event ?hg (N := 5) ?hd (cs := #[.int .i64 0, .slice none 0 0, .slice none 0 0]) (t := 41) ?hr ?_; (case hd => rfl); (case hg => rfl); (case hr => first | (go_simp; done) | (go_simp; rfl)); intro gc hg w5 hbox hb; have n1_ := Aside0.mk (below_step HB.out hb); have n2_ := Aside0.mk (M.out.below hb); have GC := Aside0.mk (by rw [hg]; exact HB.out.size : w.heap.size ≤ gc); have NC := Aside0.mk (by rw [hg]; exact Nat.ne_of_lt M.out.lt : b3 ≠ gc); have BK := Aside0.mk hbox; clear HB M; have HB := n1_; have M := n2_; clear n1_ n2_ hbox hb hg; have hcy0 := (blk_cell BK.out 0).trans rfl; have hcy1 := (blk_cell BK.out 1).trans rfl; have hcy2 := (blk_cell BK.out 2).trans rfl; have hfy0 := blk_frozen BK.out 0; have hfy1 := blk_frozen BK.out 1; have hfy2 := blk_frozen BK.out 2) | ((with_reducible refine gate_store (t := 41) (p := 5) rfl ?_); refine store_event (t := 41) (p := 5) (v := ?voc) (w1 := (((w5.setCell ⟨gc, 0, none⟩ (.int .i64 (rd_T41 l0 i).f0)).setCell ⟨gc, 1, none⟩ (.slice A1 (rd_T41 l0 i).f1.length c1)).setCell ⟨gc, 2, none⟩ (.slice A2 (rd_T41 l0 i).f2.length c2))) ?hg ?ho ?hn ?hr ?_; (case ho => rfl); (case hg => rfl); (case hn => rfl); (case hr => first | (go_simp; done) | (go_simp; rfl)); intro w6 hw; obtain ⟨k1_, k2_⟩ := col3 (.int .i64 (rd_T41 l0 i).f0) (.slice A1 (rd_T41 l0 i).f1.length c1) (.slice A2 (rd_T41 l0 i).f2.length c2) BK.out; rw [← hw] at k1_ k2_; clear hw hcy0 hcy1 hcy2 hfy0 hfy1 hfy2; have n1_ := Aside0.mk (pw_below_grown HB.out (some gc) HB.out.size k2_ (fun k e => by have e2 : gc = k := Option.some.inj e; rw [← e2]; exact GC.out)); have n2_ := Aside0.mk (M.out.kept k2_ (fun e => NC.out (Option.some.inj e))); clear HB M BK; have HB := n1_; have M := n2_; have BK := Aside0.mk k1_; clear n1_ n2_ k1_ k2_; have hcz0 := (blk_cell BK.out 0).trans rfl; have hcz1 := (blk_cell BK.out 1).trans rfl; have hcz2 := (blk_cell BK.out 2).trans rfl) | (go_at_call 34; (with_reducible refine (impl_ColumnOk.calls (rd_T41 l0 i).f0 _ _ (rd_T41 l0 i).f1 _ _ (rd_T41 l0 i).f2 true _ (Kd.C_below g1.out HB.out) l1.out (Kd.C_below g2.out HB.out) l2.out WC.out).mono ?_); rintro e w7 ⟨rfl, hb⟩; have n0_ := Aside0.mk (blk_below BK.out hb); have n1_ := Aside0.mk (below_step HB.out hb); have n2_ := Aside0.mk (M.out.below hb); clear HB M BK; have BK := n0_; have HB := n1_; have M := n2_; clear n0_ n1_ n2_ hb hcz0 hcz1 hcz2; have hcz0 := (blk_cell BK.out 0).trans rfl; have hcz1 := (blk_cell BK.out 1).trans rfl; have hcz2 := (blk_cell BK.out 2).trans rfl))
     clear h0 h1 h2 q0 q1 hcz0 hcz1 hcz2
     go_loopw [25] (fun v25 wr => ∃ (j : Int) (qs : List Int), v25 = .int .i64 j ∧ Aside0 (0 ≤ j ∧ j ≤ (rd_T41 l0 i).f2.length) ∧ Aside0 (parP (rd_T41 l0 i).f2 ps = parP ((rd_T41 l0 i).f2.drop j.toNat) qs) ∧ Aside0 ((qs.length : Int) ≤ 24 * i + j) ∧ Aside0 (MapSet Try.prog 3 4 wr b3 qs) ∧ Aside0 (wr.heap[gc]? = some (.cells #[.int .i64 (rd_T41 l0 i).f0, .slice A1 (rd_T41 l0 i).f1.length c1, .slice A2 (rd_T41 l0 i).f2.length c2] 41 (0, 0))) ∧ Aside0 (Below w.heap.size w wr)) (fun v25 _ => (rd_T41 l0 i).f2.length - (intOf v25).toNat)
     case atStart => exact ⟨0, ps, rfl, ⟨by omega⟩, ⟨rfl⟩, ⟨by have := hlen.out; omega⟩, M, BK, HB⟩
     case round =>
      clear M BK HB hlen
      obtain ⟨j, qs, rfl, hj, hp, hlen, M, BK, HB⟩ := hrel
      have hcz0 := (blk_cell BK.out 0).trans rfl
      have hcz1 := (blk_cell BK.out 1).trans rfl
      have hcz2 := (blk_cell BK.out 2).trans rfl
      by_cases hlj : j < ((rd_T41 l0 i).f2.length : Int)
      ·have hdj : Aside0 ((rd_T41 l0 i).f2.drop j.toNat = (rd_T98 (rd_T41 l0 i).f2 j) :: (rd_T41 l0 i).f2.drop (j.toNat + 1)) := ⟨by
        have hn : j.toNat < (rd_T41 l0 i).f2.length := by have := hj.out.1; omega
        rw [List.drop_eq_getElem_cons hn]
        unfold rd_T98
        rw [List.getD_eq_getElem?_getD, List.getElem?_eq_getElem hn]; rfl⟩
       have hpar : Aside0 (0 ≤ (rd_T98 (rd_T41 l0 i).f2 j).f2 ∧ (rd_T98 (rd_T41 l0 i).f2 j).f2 ≤ 999) := ⟨hall.out _ (List.mem_of_mem_drop (hdj.out ▸ List.mem_cons_self))⟩
       obtain ⟨ad2, e2, h0, h1, h2, h3⟩ := at_T98 g2.out j hj.out.1 hlj
       subst e2
       replace h0 := (HB.out.cell (World.block_lt_of_cell? w _ h0)).trans h0
       replace h1 := (HB.out.cell (World.block_lt_of_cell? w _ h1)).trans h1
       replace h2 := (HB.out.cell (World.block_lt_of_cell? w _ h2)).trans h2
       replace h3 := (HB.out.cell (World.block_lt_of_cell? w _ h3)).trans h3
       have q0 := eq_true hj.out.1
       have q1 := eq_true hlj
       have hljb : decide (j < ((rd_T41 l0 i).f2.length : Int)) = true := decide_eq_true hlj
       have hwj : Aside0 (wrap64 (j + 1) = j + 1) := ⟨by have := hj.out; have := L2.out; unfold wrap64; omega⟩
       have hlj2 := Aside0.mk hlj
       clear hlj
       by_cases h3 : 0 < (rd_T98 (rd_T41 l0 i).f2 j).f2
       ·have c3b : decide (0 < (rd_T98 (rd_T41 l0 i).f2 j).f2) = true := decide_eq_true h3
        by_cases h4 : (rd_T98 (rd_T41 l0 i).f2 j).f2 ∈ qs
        ·have hdm : decide ((rd_T98 (rd_T41 l0 i).f2 j).f2 ∈ qs) = true := decide_eq_true h4
         have hres : Aside0 (r = false) := ⟨by
          rw [hr2.out, hp.out, hdj.out]
          simp only [parP]
          rw [if_pos ⟨h3, h4⟩]⟩
         clear h3 h4 hdj hp
         go_wp2_with (first | ((with_reducible refine gate_dst (N := 7) rfl ?_); refine box_event ?hg (N := 7) ?hd (cs := #[.int .i64 0, .int .i64 0, .int .i64 0, .bool false]) (t := 98) ?hr ?_; (case hd => rfl); (case hg => rfl); (case hr => first | (go_simp; done) | (go_simp; rfl)); intro gb hg w7 hbox hb; have n0_ := Aside0.mk (blk_below BK.out hb); have n1_ := Aside0.mk (below_step HB.out hb); have n2_ := Aside0.mk (M.out.below hb); have GB := Aside0.mk (by rw [hg]; exact HB.out.size : w.heap.size ≤ gb); have NB := Aside0.mk (by rw [hg]; exact Nat.ne_of_lt (blk_lt BK.out) : gc ≠ gb); have NB3 := Aside0.mk (by rw [hg]; exact Nat.ne_of_lt M.out.lt : b3 ≠ gb); have BB := Aside0.mk hbox; clear BK HB M; have BK := n0_; have HB := n1_; have M := n2_; clear n0_ n1_ n2_ hbox hb hg; have hcy0 := (blk_cell BB.out 0).trans rfl; have hcy1 := (blk_cell BB.out 1).trans rfl; have hcy2 := (blk_cell BB.out 2).trans rfl; have hcy3 := (blk_cell BB.out 3).trans rfl; have hfy0 := blk_frozen BB.out 0; have hfy1 := blk_frozen BB.out 1; have hfy2 := blk_frozen BB.out 2; have hfy3 := blk_frozen BB.out 3) | ((with_reducible refine gate_store (t := 98) (p := 7) rfl ?_); refine store_event (t := 98) (p := 7) (v := ?vo) (w1 := ((((w7.setCell ⟨gb, 0, none⟩ (.int .i64 (rd_T98 (rd_T41 l0 i).f2 j).f0)).setCell ⟨gb, 1, none⟩ (.int .i64 (rd_T98 (rd_T41 l0 i).f2 j).f1)).setCell ⟨gb, 2, none⟩ (.int .i64 (rd_T98 (rd_T41 l0 i).f2 j).f2)).setCell ⟨gb, 3, none⟩ (.bool (rd_T98 (rd_T41 l0 i).f2 j).f3))) ?hg ?ho ?hn ?hr ?_; (case ho => rfl); (case hg => rfl); (case hn => rfl); (case hr => first | (go_simp; done) | (go_simp; rfl)); intro w8 hw; obtain ⟨k1_, k2_⟩ := box4 (.int .i64 (rd_T98 (rd_T41 l0 i).f2 j).f0) (.int .i64 (rd_T98 (rd_T41 l0 i).f2 j).f1) (.int .i64 (rd_T98 (rd_T41 l0 i).f2 j).f2) (.bool (rd_T98 (rd_T41 l0 i).f2 j).f3) BB.out; rw [← hw] at k1_ k2_; clear hw hcy0 hcy1 hcy2 hcy3 hfy0 hfy1 hfy2 hfy3; have n0_ := Aside0.mk (blk_grown BK.out k2_ (fun e => NB.out (Option.some.inj e))); have n1_ := Aside0.mk (pw_below_grown HB.out (some gb) HB.out.size k2_ (fun k e => by have e2 : gb = k := Option.some.inj e; rw [← e2]; exact GB.out)); have n2_ := Aside0.mk (M.out.kept k2_ (fun e => NB3.out (Option.some.inj e))); clear BK HB M BB; have BK := n0_; have HB := n1_; have M := n2_; have BB := Aside0.mk k1_; clear n0_ n1_ n2_ k1_ k2_; have hcz0 := (blk_cell BK.out 0).trans rfl; have hcz1 := (blk_cell BK.out 1).trans rfl; have hcz2 := (blk_cell BK.out 2).trans rfl; have hcx0 := (blk_cell BB.out 0).trans rfl; have hcx1 := (blk_cell BB.out 1).trans rfl; have hcx2 := (blk_cell BB.out 2).trans rfl; have hcx3 := (blk_cell BB.out 3).trans rfl; have hlk := MapSet.look M.out Try.underlying3 Try.underlying4 Try.underlying100 (hzero _) (rd_T98 (rd_T41 l0 i).f2 j).f2 (int_wf (by have := hpar.out; omega)); rw [hdm] at hlk))
         go_ret
         exact ⟨by rw [hres.out]; rfl, HB.out⟩
        ·have hdm : decide ((rd_T98 (rd_T41 l0 i).f2 j).f2 ∈ qs) = false := decide_eq_false h4
         have c34 : ¬ (0 < (rd_T98 (rd_T41 l0 i).f2 j).f2 ∧ (rd_T98 (rd_T41 l0 i).f2 j).f2 ∈ qs) := fun h => h4 h.2
         clear h3 h4
         have hnew : Aside0 (parP (rd_T41 l0 i).f2 ps = parP ((rd_T41 l0 i).f2.drop (j + 1).toNat) ((rd_T98 (rd_T41 l0 i).f2 j).f2 :: qs)) := ⟨by
          rw [hp.out, hdj.out, show (j + 1).toNat = j.toNat + 1 by have := hj.out.1; omega]
          simp only [parP]
          rw [if_neg c34]⟩
         clear hdj hp c34
         go_wp2_with (first | ((with_reducible refine gate_dst (N := 7) rfl ?_); refine box_event ?hg (N := 7) ?hd (cs := #[.int .i64 0, .int .i64 0, .int .i64 0, .bool false]) (t := 98) ?hr ?_; (case hd => rfl); (case hg => rfl); (case hr => first | (go_simp; done) | (go_simp; rfl)); intro gb hg w7 hbox hb; have n0_ := Aside0.mk (blk_below BK.out hb); have n1_ := Aside0.mk (below_step HB.out hb); have n2_ := Aside0.mk (M.out.below hb); have GB := Aside0.mk (by rw [hg]; exact HB.out.size : w.heap.size ≤ gb); have NB := Aside0.mk (by rw [hg]; exact Nat.ne_of_lt (blk_lt BK.out) : gc ≠ gb); have NB3 := Aside0.mk (by rw [hg]; exact Nat.ne_of_lt M.out.lt : b3 ≠ gb); have BB := Aside0.mk hbox; clear BK HB M; have BK := n0_; have HB := n1_; have M := n2_; clear n0_ n1_ n2_ hbox hb hg; have hcy0 := (blk_cell BB.out 0).trans rfl; have hcy1 := (blk_cell BB.out 1).trans rfl; have hcy2 := (blk_cell BB.out 2).trans rfl; have hcy3 := (blk_cell BB.out 3).trans rfl; have hfy0 := blk_frozen BB.out 0; have hfy1 := blk_frozen BB.out 1; have hfy2 := blk_frozen BB.out 2; have hfy3 := blk_frozen BB.out 3) | ((with_reducible refine gate_store (t := 98) (p := 7) rfl ?_); refine store_event (t := 98) (p := 7) (v := ?vo) (w1 := ((((w7.setCell ⟨gb, 0, none⟩ (.int .i64 (rd_T98 (rd_T41 l0 i).f2 j).f0)).setCell ⟨gb, 1, none⟩ (.int .i64 (rd_T98 (rd_T41 l0 i).f2 j).f1)).setCell ⟨gb, 2, none⟩ (.int .i64 (rd_T98 (rd_T41 l0 i).f2 j).f2)).setCell ⟨gb, 3, none⟩ (.bool (rd_T98 (rd_T41 l0 i).f2 j).f3))) ?hg ?ho ?hn ?hr ?_; (case ho => rfl); (case hg => rfl); (case hn => rfl); (case hr => first | (go_simp; done) | (go_simp; rfl)); intro w8 hw; obtain ⟨k1_, k2_⟩ := box4 (.int .i64 (rd_T98 (rd_T41 l0 i).f2 j).f0) (.int .i64 (rd_T98 (rd_T41 l0 i).f2 j).f1) (.int .i64 (rd_T98 (rd_T41 l0 i).f2 j).f2) (.bool (rd_T98 (rd_T41 l0 i).f2 j).f3) BB.out; rw [← hw] at k1_ k2_; clear hw hcy0 hcy1 hcy2 hcy3 hfy0 hfy1 hfy2 hfy3; have n0_ := Aside0.mk (blk_grown BK.out k2_ (fun e => NB.out (Option.some.inj e))); have n1_ := Aside0.mk (pw_below_grown HB.out (some gb) HB.out.size k2_ (fun k e => by have e2 : gb = k := Option.some.inj e; rw [← e2]; exact GB.out)); have n2_ := Aside0.mk (M.out.kept k2_ (fun e => NB3.out (Option.some.inj e))); clear BK HB M BB; have BK := n0_; have HB := n1_; have M := n2_; have BB := Aside0.mk k1_; clear n0_ n1_ n2_ k1_ k2_; have hcz0 := (blk_cell BK.out 0).trans rfl; have hcz1 := (blk_cell BK.out 1).trans rfl; have hcz2 := (blk_cell BK.out 2).trans rfl; have hcx0 := (blk_cell BB.out 0).trans rfl; have hcx1 := (blk_cell BB.out 1).trans rfl; have hcx2 := (blk_cell BB.out 2).trans rfl; have hcx3 := (blk_cell BB.out 3).trans rfl; have hlk := MapSet.look M.out Try.underlying3 Try.underlying4 Try.underlying100 (hzero _) (rd_T98 (rd_T41 l0 i).f2 j).f2 (int_wf (by have := hpar.out; omega)); rw [hdm] at hlk) | (refine wpList_putSet _ rfl (.tmp 38) (.tmp 40) (.const (.bool true)) 100 rfl Try.underlying3 Try.underlying4 Try.underlying100 b3 qs rfl M.out (by have := hlen.out; have := hk.out; have := hL6.out; have := hj.out; have := h24.out; unfold maxLen; omega) (rd_T98 (rd_T41 l0 i).f2 j).f2 rfl rfl (int_wf (by have := hpar.out; omega)) ?_; intro w10 p2_ p3_; have n0_ := Aside0.mk (blk_grown BK.out p3_ (fun e => NC.out (Option.some.inj e).symm)); have n1_ := Aside0.mk (pw_below_grown HB.out (some b3) HB.out.size p3_ (fun k e => by have e2 : b3 = k := Option.some.inj e; rw [← e2]; exact G3.out)); have n2_ := Aside0.mk p2_; clear HB M BK BB hcz0 hcz1 hcz2 hcx0 hcx1 hcx2 hcx3; have BK := n0_; have HB := n1_; have M := n2_; clear n0_ n1_ n2_ p2_ p3_))
         go_roundw
         case rel => exact ⟨j + 1, (rd_T98 (rd_T41 l0 i).f2 j).f2 :: qs, by rw [hwj.out], ⟨by have := hj.out; have := hlj2.out; omega⟩, hnew, ⟨by have := hlen.out; simp; omega⟩, M, BK, HB⟩
         case measure =>
          have := hj.out; have := hlj2.out
          rw [hwj.out]
          simp [intOf]
          omega
       ·have c3b : decide (0 < (rd_T98 (rd_T41 l0 i).f2 j).f2) = false := decide_eq_false h3
        have c34 : ¬ (0 < (rd_T98 (rd_T41 l0 i).f2 j).f2 ∧ (rd_T98 (rd_T41 l0 i).f2 j).f2 ∈ qs) := fun h => h3 h.1
        clear h3
        have hnew : Aside0 (parP (rd_T41 l0 i).f2 ps = parP ((rd_T41 l0 i).f2.drop (j + 1).toNat) ((rd_T98 (rd_T41 l0 i).f2 j).f2 :: qs)) := ⟨by
         rw [hp.out, hdj.out, show (j + 1).toNat = j.toNat + 1 by have := hj.out.1; omega]
         simp only [parP]
         rw [if_neg c34]⟩
        clear hdj hp c34
        go_wp2_with (first | ((with_reducible refine gate_dst (N := 7) rfl ?_); refine box_event ?hg (N := 7) ?hd (cs := #[.int .i64 0, .int .i64 0, .int .i64 0, .bool false]) (t := 98) ?hr ?_; (case hd => rfl); (case hg => rfl); (case hr => first | (go_simp; done) | (go_simp; rfl)); intro gb hg w7 hbox hb; have n0_ := Aside0.mk (blk_below BK.out hb); have n1_ := Aside0.mk (below_step HB.out hb); have n2_ := Aside0.mk (M.out.below hb); have GB := Aside0.mk (by rw [hg]; exact HB.out.size : w.heap.size ≤ gb); have NB := Aside0.mk (by rw [hg]; exact Nat.ne_of_lt (blk_lt BK.out) : gc ≠ gb); have NB3 := Aside0.mk (by rw [hg]; exact Nat.ne_of_lt M.out.lt : b3 ≠ gb); have BB := Aside0.mk hbox; clear BK HB M; have BK := n0_; have HB := n1_; have M := n2_; clear n0_ n1_ n2_ hbox hb hg; have hcy0 := (blk_cell BB.out 0).trans rfl; have hcy1 := (blk_cell BB.out 1).trans rfl; have hcy2 := (blk_cell BB.out 2).trans rfl; have hcy3 := (blk_cell BB.out 3).trans rfl; have hfy0 := blk_frozen BB.out 0; have hfy1 := blk_frozen BB.out 1; have hfy2 := blk_frozen BB.out 2; have hfy3 := blk_frozen BB.out 3) | ((with_reducible refine gate_store (t := 98) (p := 7) rfl ?_); refine store_event (t := 98) (p := 7) (v := ?vo) (w1 := ((((w7.setCell ⟨gb, 0, none⟩ (.int .i64 (rd_T98 (rd_T41 l0 i).f2 j).f0)).setCell ⟨gb, 1, none⟩ (.int .i64 (rd_T98 (rd_T41 l0 i).f2 j).f1)).setCell ⟨gb, 2, none⟩ (.int .i64 (rd_T98 (rd_T41 l0 i).f2 j).f2)).setCell ⟨gb, 3, none⟩ (.bool (rd_T98 (rd_T41 l0 i).f2 j).f3))) ?hg ?ho ?hn ?hr ?_; (case ho => rfl); (case hg => rfl); (case hn => rfl); (case hr => first | (go_simp; done) | (go_simp; rfl)); intro w8 hw; obtain ⟨k1_, k2_⟩ := box4 (.int .i64 (rd_T98 (rd_T41 l0 i).f2 j).f0) (.int .i64 (rd_T98 (rd_T41 l0 i).f2 j).f1) (.int .i64 (rd_T98 (rd_T41 l0 i).f2 j).f2) (.bool (rd_T98 (rd_T41 l0 i).f2 j).f3) BB.out; rw [← hw] at k1_ k2_; clear hw hcy0 hcy1 hcy2 hcy3 hfy0 hfy1 hfy2 hfy3; have n0_ := Aside0.mk (blk_grown BK.out k2_ (fun e => NB.out (Option.some.inj e))); have n1_ := Aside0.mk (pw_below_grown HB.out (some gb) HB.out.size k2_ (fun k e => by have e2 : gb = k := Option.some.inj e; rw [← e2]; exact GB.out)); have n2_ := Aside0.mk (M.out.kept k2_ (fun e => NB3.out (Option.some.inj e))); clear BK HB M BB; have BK := n0_; have HB := n1_; have M := n2_; have BB := Aside0.mk k1_; clear n0_ n1_ n2_ k1_ k2_; have hcz0 := (blk_cell BK.out 0).trans rfl; have hcz1 := (blk_cell BK.out 1).trans rfl; have hcz2 := (blk_cell BK.out 2).trans rfl; have hcx0 := (blk_cell BB.out 0).trans rfl; have hcx1 := (blk_cell BB.out 1).trans rfl; have hcx2 := (blk_cell BB.out 2).trans rfl; have hcx3 := (blk_cell BB.out 3).trans rfl) | (refine wpList_putSet _ rfl (.tmp 38) (.tmp 40) (.const (.bool true)) 100 rfl Try.underlying3 Try.underlying4 Try.underlying100 b3 qs rfl M.out (by have := hlen.out; have := hk.out; have := hL6.out; have := hj.out; have := h24.out; unfold maxLen; omega) (rd_T98 (rd_T41 l0 i).f2 j).f2 rfl rfl (int_wf (by have := hpar.out; omega)) ?_; intro w10 p2_ p3_; have n0_ := Aside0.mk (blk_grown BK.out p3_ (fun e => NC.out (Option.some.inj e).symm)); have n1_ := Aside0.mk (pw_below_grown HB.out (some b3) HB.out.size p3_ (fun k e => by have e2 : b3 = k := Option.some.inj e; rw [← e2]; exact G3.out)); have n2_ := Aside0.mk p2_; clear HB M BK BB hcz0 hcz1 hcz2 hcx0 hcx1 hcx2 hcx3; have BK := n0_; have HB := n1_; have M := n2_; clear n0_ n1_ n2_ p2_ p3_))
        go_roundw
        case rel => exact ⟨j + 1, (rd_T98 (rd_T41 l0 i).f2 j).f2 :: qs, by rw [hwj.out], ⟨by have := hj.out; have := hlj2.out; omega⟩, hnew, ⟨by have := hlen.out; simp; omega⟩, M, BK, HB⟩
        case measure =>
         have := hj.out; have := hlj2.out
         rw [hwj.out]
         simp [intOf]
         omega
      ·have hljb : decide (j < ((rd_T41 l0 i).f2.length : Int)) = false := decide_eq_false hlj
       have hnew : Aside0 (r = bankL (l0.drop (i + 1).toNat) qs) := ⟨by
        rw [hr2.out, hp.out, List.drop_eq_nil_of_le (by omega)]
        simp only [parP]⟩
       have hl3 : Aside0 ((qs.length : Int) ≤ 24 * (i + 1)) := ⟨by have := hlen.out; have := h24.out; have := hj.out; omega⟩
       clear hlj
       go_wp2
       go_roundw
       case rel => exact ⟨i + 1, qs, by rw [hwr.out], ⟨by have := hk.out; have := hlt2.out; omega⟩, hnew, hl3, M, HB⟩
       case measure =>
        have := hk.out; have := hlt2.out
        rw [hwr.out]
        simp [intOf]
        omega
    ·have hcf : colP (rd_T41 l0 i).f0 (rd_T41 l0 i).f1 (rd_T41 l0 i).f2 = false := by simpa using hc
     have WC : Aside0 (impl_ColumnOk.f (rd_T41 l0 i).f0 (rd_T41 l0 i).f1 (rd_T41 l0 i).f2 = some false) := ⟨congrArg some hcf⟩
     have hres : Aside0 (r = false) := ⟨by
      rw [hr1.out, hdrop.out]
      simp only [bankL]
      rw [hcf, Bool.false_and]⟩
     clear hc hcf hr1 hdrop
     go_wp2_with (first | ((with_reducible refine gate_dst (N := 5) rfl ?_); refine box_event ?hg (N := 5) ?hd (cs := #[.int .i64 0, .slice none 0 0, .slice none 0 0]) (t := 41) ?hr ?_; (case hd => rfl); (case hg => rfl); (case hr => first | (go_simp; done) | (go_simp; rfl)); intro gc hg w5 hbox hb; have n1_ := Aside0.mk (below_step HB.out hb); have n2_ := Aside0.mk (M.out.below hb); have GC := Aside0.mk (by rw [hg]; exact HB.out.size : w.heap.size ≤ gc); have NC := Aside0.mk (by rw [hg]; exact Nat.ne_of_lt M.out.lt : b3 ≠ gc); have BK := Aside0.mk hbox; clear HB M; have HB := n1_; have M := n2_; clear n1_ n2_ hbox hb hg; have hcy0 := (blk_cell BK.out 0).trans rfl; have hcy1 := (blk_cell BK.out 1).trans rfl; have hcy2 := (blk_cell BK.out 2).trans rfl; have hfy0 := blk_frozen BK.out 0; have hfy1 := blk_frozen BK.out 1; have hfy2 := blk_frozen BK.out 2) | ((with_reducible refine gate_store (t := 41) (p := 5) rfl ?_); refine store_event (t := 41) (p := 5) (v := ?voc) (w1 := (((w5.setCell ⟨gc, 0, none⟩ (.int .i64 (rd_T41 l0 i).f0)).setCell ⟨gc, 1, none⟩ (.slice A1 (rd_T41 l0 i).f1.length c1)).setCell ⟨gc, 2, none⟩ (.slice A2 (rd_T41 l0 i).f2.length c2))) ?hg ?ho ?hn ?hr ?_; (case ho => rfl); (case hg => rfl); (case hn => rfl); (case hr => first | (go_simp; done) | (go_simp; rfl)); intro w6 hw; obtain ⟨k1_, k2_⟩ := col3 (.int .i64 (rd_T41 l0 i).f0) (.slice A1 (rd_T41 l0 i).f1.length c1) (.slice A2 (rd_T41 l0 i).f2.length c2) BK.out; rw [← hw] at k1_ k2_; clear hw hcy0 hcy1 hcy2 hfy0 hfy1 hfy2; have n1_ := Aside0.mk (pw_below_grown HB.out (some gc) HB.out.size k2_ (fun k e => by have e2 : gc = k := Option.some.inj e; rw [← e2]; exact GC.out)); have n2_ := Aside0.mk (M.out.kept k2_ (fun e => NC.out (Option.some.inj e))); clear HB M BK; have HB := n1_; have M := n2_; have BK := Aside0.mk k1_; clear n1_ n2_ k1_ k2_; have hcz0 := (blk_cell BK.out 0).trans rfl; have hcz1 := (blk_cell BK.out 1).trans rfl; have hcz2 := (blk_cell BK.out 2).trans rfl) | (go_at_call 34; (with_reducible refine (impl_ColumnOk.calls (rd_T41 l0 i).f0 _ _ (rd_T41 l0 i).f1 _ _ (rd_T41 l0 i).f2 false _ (Kd.C_below g1.out HB.out) l1.out (Kd.C_below g2.out HB.out) l2.out WC.out).mono ?_); rintro e w7 ⟨rfl, hb⟩; have n0_ := Aside0.mk (blk_below BK.out hb); have n1_ := Aside0.mk (below_step HB.out hb); have n2_ := Aside0.mk (M.out.below hb); clear HB M BK; have BK := n0_; have HB := n1_; have M := n2_; clear n0_ n1_ n2_ hb hcz0 hcz1 hcz2; have hcz0 := (blk_cell BK.out 0).trans rfl; have hcz1 := (blk_cell BK.out 1).trans rfl; have hcz2 := (blk_cell BK.out 2).trans rfl))
     go_ret
     exact ⟨by rw [hres.out]; rfl, by repeat (first | exact HB.out | apply pw_below_drewN)⟩
   ·have hltb : decide (i < (l0.length : Int)) = false := decide_eq_false hlt
    have hres : Aside0 (r = true) := ⟨by rw [hr1.out, List.drop_eq_nil_of_le (by omega)]; rfl⟩
    clear hlt hr1
    go_wp2
    go_ret
    exact ⟨by rw [hres.out]; rfl, HB.out⟩
 ·have hW : Aside0 (impl_within.f (l0.length : Int) 1 6 = some false) := ⟨by rw [within_is, decide_eq_false hh]⟩
  have hr1 : Aside0 (r = false) := ⟨by rw [← hrE.out]; unfold bankP; rw [decide_eq_false hh]; rfl⟩
  clear hh hrE
  go_enter Try.func51, Try.ntmps51
  go_wp2_with (first | (go_at_call 79; (with_reducible refine (impl_within.calls ((l0.length : Int)) 1 6 false _ hW.out).mono ?_); rintro e w' ⟨rfl, ⟨nd, rfl⟩⟩))
  go_ret
  exact ⟨by rw [hr1.out]; rfl, by repeat (first | exact HB.out | apply pw_below_drewN)⟩
end Go.Proofs.Ytbpjidekjogfeaa.A

namespace Go.Proofs.Ytbpjidekjogfeaa.A
open Go.RowKit Go.Proofs.YtbpjidekjogfeaaW.PrintWords Go.Proofs.YtbpjidekjogfeaaW.PrintLast Go.Proofs.YtbpjidekjogfeaaW.PrintMore
attribute [local go_sem] max2_int min2_int max_two min_two max_three min_three max_four min_four   
set_option linter.unusedVariables false
set_option linter.unusedSimpArgs false
def laws_eqIntS.l0 : Nat → List Int → List Int → Int → Option (Bool)
 | 0, _, _, _ => none
 | k + 1, x0, x1, x5 => if x5 < (x0.length : Int) then (if 0 ≤ x5 then (if x5 < (x1.length : Int) then (if (rd x0 x5) = (rd x1 x5) then (laws_eqIntS.l0 k x0 x1 (wrap64 (x5 + 1))) else (some false)) else (none)) else (none)) else (some true)
def laws_eqIntS.f (k : Nat) (l0 : List Int) (l1 : List Int) : Option (Bool) := if (l0.length : Int) = (l1.length : Int) then (laws_eqIntS.l0 k l0 l1 0) else (some false)
set_option maxHeartbeats 8000000 in
set_option maxRecDepth 100000 in
theorem laws_eqIntS.calls (k : Nat) (A0 : Option Addr) (c0 : Nat) (l0 : List Int) (A1 : Option Addr) (c1 : Nat) (l1 : List Int) (r : Bool) (w : World) (hr0 : Kd.C (Kd.int .i64) w A0 l0.length l0) (hc0 : l0.length ≤ c0) (hr1 : Kd.C (Kd.int .i64) w A1 l1.length l1) (hc1 : l1.length ≤ c1) (h : laws_eqIntS.f k l0 l1 = some r) :
  Calls Try.prog 45 #[.slice A0 l0.length c0, .slice A1 l1.length c1] w fun e w' => e = .returned (.bool r) ∧ Drawn0 w w' := by
 have HR0 := Aside0.mk hr0
 have HC0 := Aside0.mk hc0
 clear hr0 hc0
 have HR1 := Aside0.mk hr1
 have HC1 := Aside0.mk hc1
 clear hr1 hc1
 have H : (if (l0.length : Int) = (l1.length : Int) then (laws_eqIntS.l0 k l0 l1 0) else (some false)) = some r := h
 clear h
 by_cases c3 : (l0.length : Int) = (l1.length : Int)
 ·rw [if_pos c3] at H
  have c3b0 : ((l0.length : Int) == (l1.length : Int)) = true := beq_iff_eq.mpr c3
  have c3b1 : ((l0.length : Int) != (l1.length : Int)) = false := bne_eq_false_iff_eq.mpr c3
  have c3b2 : (l0.length == l1.length) = true := by first | simpa using c3 | (simp at c3 ⊢; omega)
  clear c3
  have H' := Aside0.mk H
  clear H
  go_enter Try.func45, Try.ntmps45
  go_wp2
  repeat (go_quiet (fail); try go_wp2)
  go_loopg [5] k (fun kq v5 w' => ∃ (x5_1 : Int), v5 = .int .i64 x5_1 ∧ Aside0 (laws_eqIntS.l0 kq l0 l1 x5_1 = some r) ∧ Aside0 (kq ≤ k) ∧ Drawn0 w w')
  case atStart => exact ⟨(0), (by first | rfl | (simp; done) | (simp [*]; done)), H', ⟨Nat.le_refl _⟩, by repeat (first | exact Drawn0.refl _ | apply Drawn0.step)⟩
  case round =>
   clear H'
   try clear c1
   try clear p2
   try clear c3
   try clear c3b0
   try clear c3b1
   try clear c3b2
   obtain ⟨x5_1, rfl, HA, HK1, ⟨m1, rfl⟩⟩ := hrel
   cases gk with
   | zero => exact absurd HA.out (by simp [laws_eqIntS.l0])
   | succ k1 =>
    have H := HA.out
    clear HA
    simp only [laws_eqIntS.l0] at H
    by_cases c4 : x5_1 < (l0.length : Int)
    ·rw [if_pos c4] at H
     have c4b0 : decide (x5_1 < (l0.length : Int)) = true := decide_eq_true c4
     clear c4
     by_cases c5 : 0 ≤ x5_1
     ·rw [if_pos c5] at H
      have c5b0 : decide (0 ≤ x5_1) = true := decide_eq_true c5
      clear c5
      by_cases c6 : x5_1 < (l1.length : Int)
      ·rw [if_pos c6] at H
       have c6b0 : decide (x5_1 < (l1.length : Int)) = true := decide_eq_true c6
       clear c6
       by_cases c7 : (rd l0 x5_1) = (rd l1 x5_1)
       ·rw [if_pos c7] at H
        have c7b0 : ((rd l0 x5_1) == (rd l1 x5_1)) = true := beq_iff_eq.mpr c7
        have c7b1 : ((rd l0 x5_1) != (rd l1 x5_1)) = false := bne_eq_false_iff_eq.mpr c7
        clear c7
        have H' := Aside0.mk H
        clear H
        have p242 : 0 ≤ (x5_1 : Int) := of_decide_eq_true asm
        have q242 : x5_1 < (l0.length : Int) := of_decide_eq_true asm
        obtain ⟨ad242, e242, hx242_0⟩ := Kd.at_int HR0.out x5_1 p242 q242
        cases e242
        replace p242 := eq_true p242
        replace q242 := eq_true q242
        have p243 : 0 ≤ (x5_1 : Int) := of_decide_eq_true asm
        have q243 : x5_1 < (l1.length : Int) := of_decide_eq_true asm
        obtain ⟨ad243, e243, hx243_0⟩ := Kd.at_int HR1.out x5_1 p243 q243
        cases e243
        replace p243 := eq_true p243
        replace q243 := eq_true q243
        go_wp2
        repeat (go_quiet (fail); try go_wp2)
        go_roundg k1
        case measure => have := HK1.out; omega
        case rel => exact ⟨(wrap64 (x5_1 + 1)), (by first | rfl | (simp; done) | (simp [*]; done)), H', ⟨by have := HK1.out; omega⟩, by repeat (first | exact Drawn0.refl _ | apply Drawn0.step)⟩
       ·rw [if_neg c7] at H
        have c7b0 : ((rd l0 x5_1) == (rd l1 x5_1)) = false := beq_eq_false_iff_ne.mpr c7
        have c7b1 : ((rd l0 x5_1) != (rd l1 x5_1)) = true := bne_iff_ne.mpr c7
        obtain rfl := Option.some.inj H
        have p242 : 0 ≤ (x5_1 : Int) := of_decide_eq_true asm
        have q242 : x5_1 < (l0.length : Int) := of_decide_eq_true asm
        obtain ⟨ad242, e242, hx242_0⟩ := Kd.at_int HR0.out x5_1 p242 q242
        cases e242
        replace p242 := eq_true p242
        replace q242 := eq_true q242
        have p243 : 0 ≤ (x5_1 : Int) := of_decide_eq_true asm
        have q243 : x5_1 < (l1.length : Int) := of_decide_eq_true asm
        obtain ⟨ad243, e243, hx243_0⟩ := Kd.at_int HR1.out x5_1 p243 q243
        cases e243
        replace p243 := eq_true p243
        replace q243 := eq_true q243
        go_wp2
        repeat (go_quiet (fail); try go_wp2)
        go_ret
        exact ⟨by first | rfl | (simp; done) | (simp [*]; done), by repeat (first | exact Drawn0.refl _ | apply Drawn0.step)⟩
      ·rw [if_neg c6] at H
       exact absurd H (by simp)
     ·rw [if_neg c5] at H
      exact absurd H (by simp)
    ·rw [if_neg c4] at H
     have c4b0 : decide (x5_1 < (l0.length : Int)) = false := decide_eq_false c4
     clear c4
     obtain rfl := Option.some.inj H
     go_wp2
     repeat (go_quiet (fail); try go_wp2)
     go_ret
     exact ⟨by first | rfl | (simp; done) | (simp [*]; done), by repeat (first | exact Drawn0.refl _ | apply Drawn0.step)⟩
 ·rw [if_neg c3] at H
  have c3b0 : ((l0.length : Int) == (l1.length : Int)) = false := beq_eq_false_iff_ne.mpr c3
  have c3b1 : ((l0.length : Int) != (l1.length : Int)) = true := bne_iff_ne.mpr c3
  have c3b2 : (l0.length == l1.length) = false := by first | simpa using c3 | (simp at c3 ⊢; omega)
  obtain rfl := Option.some.inj H
  go_enter Try.func45, Try.ntmps45
  go_wp2
  repeat (go_quiet (fail); try go_wp2)
  go_ret
  exact ⟨by first | rfl | (simp; done) | (simp [*]; done), by repeat (first | exact Drawn0.refl _ | apply Drawn0.step)⟩
end Go.Proofs.Ytbpjidekjogfeaa.A
