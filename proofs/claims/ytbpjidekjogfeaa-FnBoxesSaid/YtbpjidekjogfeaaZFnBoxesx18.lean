/- Used by the law FnBoxes. -/
import Derived.Test.YtbpjidekjogfeaaZFnBoxesx16
import Derived.Test.YtbpjidekjogfeaaZFnBoxesx17
import Derived.Test.YtbpjidekjogfeaaZFnBoxesh
namespace Go.Proofs.Ytbpjidekjogfeaa.A
open Go.RowKit Go.Proofs.YtbpjidekjogfeaaW.PrintWords Go.Proofs.YtbpjidekjogfeaaW.PrintLast Go.Proofs.YtbpjidekjogfeaaW.PrintMore
attribute [local go_sem] max2_int min2_int max_two min_two max_three min_three max_four min_four   
set_option linter.unusedVariables false
set_option linter.unusedSimpArgs false
def fixP (h : Int) : Option Int → List Int → Bool
 | _, [] => true
 | p, f :: fs => decide (1 ≤ f ∧ f ≤ h - 1) && (match p with | none => true | some q => decide (q < f)) && fixP h (some f) fs
def boxP (h : Int) : List S98 → Int → List Int → List Int → Option (Int × List Int)
 | [], low, ls, _ => some (low, ls)
 | b :: bs, low, ls, ps => if b.f0 = low ∧ (1 ≤ b.f1 ∧ b.f1 ≤ h - low) ∧ (0 ≤ b.f2 ∧ b.f2 ≤ 999) ∧ ¬ (0 < b.f2 ∧ b.f2 ∈ ps) then boxP h bs (low + b.f1) (b.f0 :: ls) (b.f2 :: ps) else none
def colP (h : Int) (fx : List Int) (bx : List S98) : Bool :=
 decide (1 ≤ h ∧ h ≤ 24) && decide (bx ≠ []) && fixP h none fx && (match boxP h bx 0 [] [] with | none => false | some (low, ls) => fx.all (fun f => decide (f ∈ ls)) && decide (low = h))
theorem int_wf {a : Int} (h : -9223372036854775808 ≤ a ∧ a ≤ 9223372036854775807) : (Lit.int .i64 a).wf = true := by
 simp only [Lit.wf, IntKind.min, IntKind.max, IntKind.signed, IntKind.bits, Bool.and_eq_true, decide_eq_true_eq, if_true]
 omega
theorem wp_drewN {P : Program} {c : Code} {Q : Exit → Act → World → Prop} {a : Act} {W : World} {n : Nat} (h : ∀ m, c.wp P Q a (W.drewN m)) : c.wp P Q a (W.drewN n) := h n
theorem fix_in (h : Int) : ∀ (l : List Int) (p : Option Int), fixP h p l = true → ∀ f ∈ l, 1 ≤ f ∧ f ≤ h - 1
 | [], _, _, f, hf => absurd hf (by simp)
 | x :: l, p, e, f, hf => by
  simp only [fixP, Bool.and_eq_true, decide_eq_true_eq] at e
  rcases List.mem_cons.mp hf with rfl | hf
  ·exact e.1.1
  ·exact fix_in h l _ e.2 f hf
theorem within_is (a b c : Int) : impl_within.f a b c = some (decide (b ≤ a ∧ a ≤ c)) := by
 unfold impl_within.f
 split
 ·congr 1; rw [decide_eq_decide]; omega
 ·congr 1; exact (decide_eq_false (by omega)).symm
theorem box4 {W : World} {g : Nat} {t : TypeId} {a b c d : Value} (v0 v1 v2 v3 : Value) (h : W.heap[g]? = some (.cells #[a, b, c, d] t (0, 0))) :
  ((((W.setCell ⟨g, 0, none⟩ v0).setCell ⟨g, 1, none⟩ v1).setCell ⟨g, 2, none⟩ v2).setCell ⟨g, 3, none⟩ v3).heap[g]? = some (.cells #[v0, v1, v2, v3] t (0, 0)) ∧
  W.grownBy ((((W.setCell ⟨g, 0, none⟩ v0).setCell ⟨g, 1, none⟩ v1).setCell ⟨g, 2, none⟩ v2).setCell ⟨g, 3, none⟩ v3) (some g) := by
 refine ⟨blk_set (blk_set (blk_set (blk_set h 0 v0) 1 v1) 2 v2) 3 v3, rfl, rfl, rfl, ?_, fun k _ hk => ?_⟩
 ·simp [World.setCell]
 ·have hk' : k ≠ g := fun e => hk (by rw [e])
  rw [Below.heap_setCell _ _ _ _ hk', Below.heap_setCell _ _ _ _ hk', Below.heap_setCell _ _ _ _ hk', Below.heap_setCell _ _ _ _ hk']
def prevP (fx : List Int) (i : Int) : Option Int := if i ≤ 0 then none else some (rd fx (i - 1))
theorem prevP_succ (fx : List Int) (i : Int) (h : 0 ≤ i) : prevP fx (i + 1) = some (rd fx i) := by
 unfold prevP; rw [if_neg (by omega)]; congr 2; omega
def impl_ColumnOk.f (a0_0 : Int) (l0_1 : List Int) (l0_2 : List (S98)) : Option (Bool) := some (colP a0_0 l0_1 l0_2)
set_option maxHeartbeats 8000000 in
set_option maxRecDepth 100000 in
theorem impl_ColumnOk.calls (a0_0 : Int) (A0_1 : Option Addr) (c0_1 : Nat) (l0_1 : List Int) (A0_2 : Option Addr) (c0_2 : Nat) (l0_2 : List (S98)) (r : Bool) (w : World) (hr0_1 : Kd.C (Kd.int .i64) w A0_1 l0_1.length l0_1) (hc0_1 : l0_1.length ≤ c0_1) (hr0_2 : Kd.C k98 w A0_2 l0_2.length l0_2) (hc0_2 : l0_2.length ≤ c0_2) (h : impl_ColumnOk.f a0_0 l0_1 l0_2 = some r) :
  Calls Try.prog 34 #[.agg #[.int .i64 a0_0, .slice A0_1 l0_1.length c0_1, .slice A0_2 l0_2.length c0_2]] w fun e w' => e = .returned (.bool r) ∧ Below w.heap.size w w' := by
 have hrE : Aside0 (colP a0_0 l0_1 l0_2 = r) := ⟨Option.some.inj h⟩
 have HR1 := Aside0.mk hr0_1
 have HR2 := Aside0.mk hr0_2
 have L1 := Aside0.mk hr0_1.2.1
 have L2 := Aside0.mk hr0_2.2.1
 clear h hr0_1 hr0_2 hc0_1 hc0_2
 have hu30 := Try.underlying41
 have hu71 := Try.underlying98
 have HB := Aside0.mk (Below.refl w.heap.size w)
 by_cases hh : 1 ≤ a0_0 ∧ a0_0 ≤ 24
 ·by_cases hb : l0_2 = []
  ·have hbe : ((l0_2.length : Int) == 0) = true := by rw [hb]; rfl
   have hbe2 : (l0_2.length == 0) = true := by rw [hb]; rfl
   have hW : Aside0 (impl_within.f a0_0 1 24 = some true) := ⟨by rw [within_is, decide_eq_true hh]⟩
   have hr1 : Aside0 (r = false) := ⟨by rw [← hrE.out]; unfold colP; rw [decide_eq_false (show ¬ (l0_2 ≠ []) from fun h => h hb)]; simp⟩
   clear hh hb hrE
   go_enter Try.func34, Try.ntmps34
   go_wp2_with (first | ((with_reducible refine gate_dst (N := 1) rfl ?_); refine bx (cs := #[.int .i64 a0_0, .slice A0_1 l0_1.length c0_1, .slice A0_2 l0_2.length c0_2]) (t := 41) fun gc hg w2 hbox hb => ?_; have HB2 := Aside0.mk (below_step HB.out hb); have BK := Aside0.mk hbox; have GE := Aside0.mk (by rw [hg]; exact Nat.le_refl _ : w.heap.size ≤ gc); clear HB hb hbox hg; have hcz0 := (blk_cell BK.out 0).trans rfl; have hcz1 := (blk_cell BK.out 1).trans rfl; have hcz2 := (blk_cell BK.out 2).trans rfl) | (go_at_call 79; (with_reducible refine (impl_within.calls a0_0 1 24 true _ hW.out).mono ?_); rintro e w' ⟨rfl, ⟨nd, rfl⟩⟩))
   go_ret
   exact ⟨by rw [hr1.out]; rfl, by repeat (first | exact HB2.out | apply pw_below_drewN)⟩
  ·have hbl : Aside0 (0 < l0_2.length) := ⟨by cases l0_2 with | nil => exact absurd rfl hb | cons _ _ => simp⟩
   have hbe : ((l0_2.length : Int) == 0) = false := by have := hbl.out; simp; omega
   have hbe2 : (l0_2.length == 0) = false := by have := hbl.out; simp; omega
   have hW : Aside0 (impl_within.f a0_0 1 24 = some true) := ⟨by rw [within_is, decide_eq_true hh]⟩
   have HH := Aside0.mk hh
   have hr1 : Aside0 (r = (fixP a0_0 none l0_1 && (match boxP a0_0 l0_2 0 [] [] with | none => false | some (low, ls) => l0_1.all (fun f => decide (f ∈ ls)) && decide (low = a0_0)))) := ⟨by
    rw [← hrE.out]; unfold colP; rw [decide_eq_true HH.out, decide_eq_true hb, Bool.true_and, Bool.true_and]⟩
   clear hh hb hrE
   go_enter Try.func34, Try.ntmps34
   go_wp2_with (first | ((with_reducible refine gate_dst (N := 1) rfl ?_); refine bx (cs := #[.int .i64 a0_0, .slice A0_1 l0_1.length c0_1, .slice A0_2 l0_2.length c0_2]) (t := 41) fun gc hg w2 hbox hb => ?_; have HB2 := Aside0.mk (below_step HB.out hb); have BK := Aside0.mk hbox; have GE := Aside0.mk (by rw [hg]; exact Nat.le_refl _ : w.heap.size ≤ gc); clear HB hb hbox hg; have hcz0 := (blk_cell BK.out 0).trans rfl; have hcz1 := (blk_cell BK.out 1).trans rfl; have hcz2 := (blk_cell BK.out 2).trans rfl) | (go_at_call 79; (with_reducible refine (impl_within.calls a0_0 1 24 true _ hW.out).mono ?_); rintro e w' ⟨rfl, ⟨nd, rfl⟩⟩))
   have hwh : Aside0 (wrap64 (a0_0 - 1) = a0_0 - 1) := ⟨by have := HH.out; unfold wrap64; omega⟩
   clear hcz0 hcz1 hcz2 hbe hbe2
   go_loopw [25] (fun v25 wr => ∃ i : Int, v25 = .int .i64 i ∧ Aside0 (0 ≤ i ∧ i ≤ l0_1.length) ∧ Aside0 (fixP a0_0 none l0_1 = fixP a0_0 (prevP l0_1 i) (l0_1.drop i.toNat)) ∧ Aside0 (wr.heap[gc]? = some (.cells #[.int .i64 a0_0, .slice A0_1 l0_1.length c0_1, .slice A0_2 l0_2.length c0_2] 41 (0, 0))) ∧ Aside0 (Below w.heap.size w wr)) (fun v25 _ => l0_1.length - (intOf v25).toNat)
   case atStart => exact ⟨0, rfl, ⟨by omega⟩, ⟨rfl⟩, ⟨by repeat (first | exact BK.out | refine blk_drewN ?_ _)⟩, ⟨by repeat (first | exact HB2.out | apply pw_below_drewN)⟩⟩
   case round =>
    clear BK HB2
    obtain ⟨i, rfl, hk, hi, BK, HB⟩ := hrel
    have hcz0 := (blk_cell BK.out 0).trans rfl
    have hcz1 := (blk_cell BK.out 1).trans rfl
    have hcz2 := (blk_cell BK.out 2).trans rfl
    by_cases hlt : i < (l0_1.length : Int)
    ·have hdrop : Aside0 (l0_1.drop i.toNat = rd l0_1 i :: l0_1.drop (i.toNat + 1)) := ⟨by
      have hn : i.toNat < l0_1.length := by have := hk.out.1; omega
      rw [List.drop_eq_getElem_cons hn]
      unfold rd
      rw [List.getD_eq_getElem?_getD, List.getElem?_eq_getElem hn]; rfl⟩
     obtain ⟨ad, e1, h0⟩ := Kd.at_int HR1.out i hk.out.1 hlt
     subst e1
     replace h0 := (HB.out.cell (World.block_lt_of_cell? w _ h0)).trans h0
     have q0 := eq_true hk.out.1
     have q1 := eq_true hlt
     have hltb : decide (i < (l0_1.length : Int)) = true := decide_eq_true hlt
     have hwr : Aside0 (wrap64 (i + 1) = i + 1) := ⟨by have := hk.out; have := L1.out; unfold wrap64; omega⟩
     have hlt2 := Aside0.mk hlt
     clear hlt
     by_cases hf : 1 ≤ rd l0_1 i ∧ rd l0_1 i ≤ a0_0 - 1
     ·have hW2 : Aside0 (impl_within.f (rd l0_1 i) 1 (wrap64 (a0_0 - 1)) = some true) := ⟨by rw [within_is, hwh.out, decide_eq_true hf]⟩
      by_cases hi0 : 0 < i
      ·have hi0b : decide (0 < i) = true := decide_eq_true hi0
       obtain ⟨ji, hji⟩ : ∃ j_ : Int, wrap64 (i - 1) = j_ := ⟨_, rfl⟩
       have hjiw : (IntKind.i64.wrap (i - 1)) = ji := (i64_w _).trans hji
       have hjv : Aside0 (ji = i - 1) := ⟨by rw [← hji]; have := hlt2.out; have := L1.out; unfold wrap64; omega⟩
       obtain ⟨ad2, e2, h2⟩ := Kd.at_int HR1.out ji (by have := hjv.out; omega) (by have := hjv.out; have := hlt2.out; omega)
       obtain rfl : ad = ad2 := (by injection e2)
       replace h2 := (HB.out.cell (World.block_lt_of_cell? w _ h2)).trans h2
       have q2 : (0 ≤ ji) = True := eq_true (by have := hjv.out; omega)
       have q3 : (ji < (l0_1.length : Int)) = True := eq_true (by have := hjv.out; have := hlt2.out; omega)
       have hi02 := Aside0.mk hi0
       clear hi0
       by_cases hle : rd l0_1 i ≤ rd l0_1 ji
       ·have hleb : decide (rd l0_1 i ≤ rd l0_1 ji) = true := decide_eq_true hle
        have hres : Aside0 (r = false) := ⟨by
         rw [hr1.out, hi.out, hdrop.out]
         have e : prevP l0_1 i = some (rd l0_1 ji) := by unfold prevP; rw [if_neg (by have := hi02.out; omega), hjv.out]
         rw [e]; simp only [fixP]
         rw [decide_eq_false (show ¬ rd l0_1 ji < rd l0_1 i by omega)]; simp⟩
        clear hle hf hi hdrop
        go_wp2_with (go_at_call 79; (with_reducible refine (impl_within.calls (rd l0_1 i) 1 (wrap64 (a0_0 - 1)) true _ hW2.out).mono ?_); rintro e w' ⟨rfl, ⟨nd, rfl⟩⟩)
        go_ret
        exact ⟨by rw [hres.out]; rfl, by repeat (first | exact HB.out | apply pw_below_drewN)⟩
       ·have hleb : decide (rd l0_1 i ≤ rd l0_1 ji) = false := decide_eq_false hle
        have hres : Aside0 (fixP a0_0 none l0_1 = fixP a0_0 (prevP l0_1 (i + 1)) (l0_1.drop (i + 1).toNat)) := ⟨by
         rw [hi.out, hdrop.out, prevP_succ _ _ hk.out.1, show (i + 1).toNat = i.toNat + 1 by have := hk.out.1; omega]
         have e : prevP l0_1 i = some (rd l0_1 ji) := by unfold prevP; rw [if_neg (by have := hi02.out; omega), hjv.out]
         rw [e]; simp only [fixP]
         rw [decide_eq_true hf, decide_eq_true (show rd l0_1 ji < rd l0_1 i by omega)]; simp⟩
        clear hle hf hi hdrop
        go_wp2_with (go_at_call 79; (with_reducible refine (impl_within.calls (rd l0_1 i) 1 (wrap64 (a0_0 - 1)) true _ hW2.out).mono ?_); rintro e w' ⟨rfl, ⟨nd, rfl⟩⟩)
        go_roundw
        case rel => exact ⟨i + 1, by rw [hwr.out], ⟨by have := hk.out; have := hlt2.out; omega⟩, hres, ⟨by repeat (first | exact BK.out | refine blk_drewN ?_ _)⟩, ⟨by repeat (first | exact HB.out | apply pw_below_drewN)⟩⟩
        case measure =>
         have := hk.out; have := hlt2.out
         rw [hwr.out]
         simp [intOf]
         omega
      ·have hi0b : decide (0 < i) = false := decide_eq_false hi0
       have hres : Aside0 (fixP a0_0 none l0_1 = fixP a0_0 (prevP l0_1 (i + 1)) (l0_1.drop (i + 1).toNat)) := ⟨by
        rw [hi.out, hdrop.out, prevP_succ _ _ hk.out.1, show (i + 1).toNat = i.toNat + 1 by have := hk.out.1; omega]
        have e : prevP l0_1 i = none := by unfold prevP; rw [if_pos (by omega)]
        rw [e]; simp only [fixP]
        rw [decide_eq_true hf]; simp⟩
       clear hi0 hf hi hdrop
       go_wp2_with (go_at_call 79; (with_reducible refine (impl_within.calls (rd l0_1 i) 1 (wrap64 (a0_0 - 1)) true _ hW2.out).mono ?_); rintro e w' ⟨rfl, ⟨nd, rfl⟩⟩)
       go_roundw
       case rel => exact ⟨i + 1, by rw [hwr.out], ⟨by have := hk.out; have := hlt2.out; omega⟩, hres, ⟨by repeat (first | exact BK.out | refine blk_drewN ?_ _)⟩, ⟨by repeat (first | exact HB.out | apply pw_below_drewN)⟩⟩
       case measure =>
        have := hk.out; have := hlt2.out
        rw [hwr.out]
        simp [intOf]
        omega
     ·have hW2 : Aside0 (impl_within.f (rd l0_1 i) 1 (wrap64 (a0_0 - 1)) = some false) := ⟨by rw [within_is, hwh.out, decide_eq_false hf]⟩
      have hres : Aside0 (r = false) := ⟨by
       rw [hr1.out, hi.out, hdrop.out]
       simp only [fixP]
       rw [decide_eq_false hf]; simp⟩
      clear hf hi hdrop
      go_wp2_with (go_at_call 79; (with_reducible refine (impl_within.calls (rd l0_1 i) 1 (wrap64 (a0_0 - 1)) false _ hW2.out).mono ?_); rintro e w' ⟨rfl, ⟨nd, rfl⟩⟩)
      go_ret
      exact ⟨by rw [hres.out]; rfl, by repeat (first | exact HB.out | apply pw_below_drewN)⟩
    ·have hltb : decide (i < (l0_1.length : Int)) = false := decide_eq_false hlt
     have hr2 : Aside0 (r = (match boxP a0_0 l0_2 0 [] [] with | none => false | some (low, ls) => l0_1.all (fun f => decide (f ∈ ls)) && decide (low = a0_0))) := ⟨by
      rw [hr1.out, hi.out, List.drop_eq_nil_of_le (by omega)]
      simp only [fixP, Bool.true_and]⟩
     have hfix : Aside0 (fixP a0_0 none l0_1 = true) := ⟨by
      rw [hi.out, List.drop_eq_nil_of_le (by omega)]; simp only [fixP]⟩
     clear hlt hi hk
     have HHb := Aside0.mk (show (0 : Int) ≤ 0 ∧ (0 : Int) ≤ a0_0 by have := HH.out; omega)
     have hzero : ∀ W : World, (zeroValue 4).run Try.prog W = .ok (.bool false) W := fun W => by kernel_rfl
     go_wp2_with (first | ((with_reducible refine gate_dst (N := 51) rfl ?_); refine map_event 3 4 ?hg (N := 51) ?hd 100 ?ho ?_; (case hd => rfl); (case hg => rfl); (case ho => rfl); intro b6 hg w3 hm hb; have M6 := Aside0.mk hm; have n0_ := Aside0.mk (blk_below BK.out hb); have n1_ := Aside0.mk (below_step HB.out hb); have G6 := Aside0.mk (by rw [hg]; exact HB.out.size : w.heap.size ≤ b6); have N6 := Aside0.mk (by rw [hg]; exact Nat.ne_of_lt (blk_lt BK.out) : gc ≠ b6); clear BK HB; have BK := n0_; have HB := n1_; clear n0_ n1_ hm hg hb) | ((with_reducible refine gate_dst (N := 52) rfl ?_); refine map_event 3 4 ?hg (N := 52) ?hd 100 ?ho ?_; (case hd => rfl); (case hg => rfl); (case ho => rfl); intro b7 hg w4 hm hb; have M7 := Aside0.mk hm; have n0_ := Aside0.mk (blk_below BK.out hb); have n1_ := Aside0.mk (below_step HB.out hb); have n2_ := Aside0.mk (M6.out.below hb); have G7 := Aside0.mk (by rw [hg]; exact HB.out.size : w.heap.size ≤ b7); have N7 := Aside0.mk (by rw [hg]; exact Nat.ne_of_lt (blk_lt BK.out) : gc ≠ b7); have N67 := Aside0.mk (by rw [hg]; exact Nat.ne_of_lt M6.out.lt : b6 ≠ b7); clear BK HB M6; have BK := n0_; have HB := n1_; have M6 := n2_; clear n0_ n1_ n2_ hm hg hb; clear hcz0 hcz1 hcz2; have hcz0 := (blk_cell BK.out 0).trans rfl; have hcz1 := (blk_cell BK.out 1).trans rfl; have hcz2 := (blk_cell BK.out 2).trans rfl))
     clear hcz0 hcz1 hcz2
     go_loopw [5, 56] (fun v5 v56 wr => ∃ (i low : Int) (ls ps : List Int), v5 = .int .i64 low ∧ v56 = .int .i64 i ∧ Aside0 (0 ≤ i ∧ i ≤ l0_2.length) ∧ Aside0 (boxP a0_0 l0_2 0 [] [] = boxP a0_0 (l0_2.drop i.toNat) low ls ps) ∧ Aside0 (0 ≤ low ∧ low ≤ a0_0 ∧ i ≤ low) ∧ Aside0 ((ls.length : Int) = i ∧ (ps.length : Int) = i) ∧ Aside0 (MapSet Try.prog 3 4 wr b6 ls) ∧ Aside0 (MapSet Try.prog 3 4 wr b7 ps) ∧ Aside0 (wr.heap[gc]? = some (.cells #[.int .i64 a0_0, .slice A0_1 l0_1.length c0_1, .slice A0_2 l0_2.length c0_2] 41 (0, 0))) ∧ Aside0 (Below w.heap.size w wr)) (fun _ v56 _ => l0_2.length - (intOf v56).toNat)
     case atStart => exact ⟨0, 0, [], [], rfl, rfl, ⟨by omega⟩, ⟨rfl⟩, ⟨by have := HHb.out; omega⟩, ⟨by simp⟩, M6, M7, BK, HB⟩
     case round =>
      clear M6 M7 BK HB
      obtain ⟨i2, low, ls, ps, rfl, rfl, hk, hi, hlow, hlen, M6, M7, BK, HB⟩ := hrel
      by_cases hlt : i2 < (l0_2.length : Int)
      ·have hdrop : Aside0 (l0_2.drop i2.toNat = rd_T98 l0_2 i2 :: l0_2.drop (i2.toNat + 1)) := ⟨by
        have hn : i2.toNat < l0_2.length := by have := hk.out.1; omega
        rw [List.drop_eq_getElem_cons hn]
        unfold rd_T98
        rw [List.getD_eq_getElem?_getD, List.getElem?_eq_getElem hn]; rfl⟩
       obtain ⟨ad, e1, h0, h1, h2, h3⟩ := at_T98 HR2.out i2 hk.out.1 hlt
       subst e1
       replace h0 := (HB.out.cell (World.block_lt_of_cell? w _ h0)).trans h0
       replace h1 := (HB.out.cell (World.block_lt_of_cell? w _ h1)).trans h1
       replace h2 := (HB.out.cell (World.block_lt_of_cell? w _ h2)).trans h2
       replace h3 := (HB.out.cell (World.block_lt_of_cell? w _ h3)).trans h3
       have q0 := eq_true hk.out.1
       have q1 := eq_true hlt
       have hltb : decide (i2 < (l0_2.length : Int)) = true := decide_eq_true hlt
       have hwr : Aside0 (wrap64 (i2 + 1) = i2 + 1) := ⟨by have := hk.out; have := L2.out; unfold wrap64; omega⟩
       have hwl : Aside0 (wrap64 (a0_0 - low) = a0_0 - low) := ⟨by have := hlow.out; have := HH.out; unfold wrap64; omega⟩
       have hlt2 := Aside0.mk hlt
       clear hlt
       by_cases c0 : (rd_T98 l0_2 i2).f0 = low
       ·have c0b : ((rd_T98 l0_2 i2).f0 != low) = false := by simpa using c0
        by_cases h1 : 1 ≤ (rd_T98 l0_2 i2).f1 ∧ (rd_T98 l0_2 i2).f1 ≤ a0_0 - low
        ·have W1 : Aside0 (impl_within.f (rd_T98 l0_2 i2).f1 1 (wrap64 (a0_0 - low)) = some true) := ⟨by rw [within_is, hwl.out, decide_eq_true h1]⟩
         have H1 := Aside0.mk h1
         clear h1
         by_cases h2 : 0 ≤ (rd_T98 l0_2 i2).f2 ∧ (rd_T98 l0_2 i2).f2 ≤ 999
         ·have W2 : Aside0 (impl_within.f (rd_T98 l0_2 i2).f2 0 999 = some true) := ⟨by rw [within_is, decide_eq_true h2]⟩
          have H2 := Aside0.mk h2
          clear h2
          by_cases h3 : 0 < (rd_T98 l0_2 i2).f2
          ·have c3b : decide (0 < (rd_T98 l0_2 i2).f2) = true := decide_eq_true h3
           by_cases h4 : (rd_T98 l0_2 i2).f2 ∈ ps
           ·have hdm : decide ((rd_T98 l0_2 i2).f2 ∈ ps) = true := decide_eq_true h4
            have hres : Aside0 (r = false) := ⟨by
             rw [hr2.out, hi.out, hdrop.out]
             simp only [boxP]
             rw [if_neg (fun h => h.2.2.2 ⟨h3, h4⟩)]⟩
            clear hi hdrop
            clear h3 h4
            go_wp2_with (first | ((with_reducible refine gate_dst (N := 9) rfl ?_); refine bx (cs := #[.int .i64 0, .int .i64 0, .int .i64 0, .bool false]) (t := 98) fun gb hg w7 hbox hb => ?_; have n0_ := Aside0.mk (blk_below BK.out hb); have n1_ := Aside0.mk (below_step HB.out hb); have n2_ := Aside0.mk (M6.out.below hb); have n3_ := Aside0.mk (M7.out.below hb); have GB := Aside0.mk (by rw [hg]; exact HB.out.size : w.heap.size ≤ gb); have NB := Aside0.mk (by rw [hg]; exact Nat.ne_of_lt (blk_lt BK.out) : gc ≠ gb); have NB6 := Aside0.mk (by rw [hg]; exact Nat.ne_of_lt M6.out.lt : b6 ≠ gb); have NB7 := Aside0.mk (by rw [hg]; exact Nat.ne_of_lt M7.out.lt : b7 ≠ gb); have BB := Aside0.mk hbox; clear BK HB M6 M7; have BK := n0_; have HB := n1_; have M6 := n2_; have M7 := n3_; clear n0_ n1_ n2_ n3_ hbox hb hg; have hcy0 := (blk_cell BB.out 0).trans rfl; have hcy1 := (blk_cell BB.out 1).trans rfl; have hcy2 := (blk_cell BB.out 2).trans rfl; have hcy3 := (blk_cell BB.out 3).trans rfl; have hfy0 := blk_frozen BB.out 0; have hfy1 := blk_frozen BB.out 1; have hfy2 := blk_frozen BB.out 2; have hfy3 := blk_frozen BB.out 3) | ((with_reducible refine gate_store (t := 98) (p := 9) rfl ?_); refine store_event (t := 98) (p := 9) (v := ?vo) (w1 := ((((w7.setCell ⟨gb, 0, none⟩ (.int .i64 (rd_T98 l0_2 i2).f0)).setCell ⟨gb, 1, none⟩ (.int .i64 (rd_T98 l0_2 i2).f1)).setCell ⟨gb, 2, none⟩ (.int .i64 (rd_T98 l0_2 i2).f2)).setCell ⟨gb, 3, none⟩ (.bool (rd_T98 l0_2 i2).f3))) ?hg ?ho ?hn ?hr ?_; (case ho => rfl); (case hg => rfl); (case hn => rfl); (case hr => first | (go_simp; done) | (go_simp; rfl)); intro w8 hw; obtain ⟨k1_, k2_⟩ := box4 (.int .i64 (rd_T98 l0_2 i2).f0) (.int .i64 (rd_T98 l0_2 i2).f1) (.int .i64 (rd_T98 l0_2 i2).f2) (.bool (rd_T98 l0_2 i2).f3) BB.out; rw [← hw] at k1_ k2_; clear hw hcy0 hcy1 hcy2 hcy3 hfy0 hfy1 hfy2 hfy3; have n0_ := Aside0.mk (blk_grown BK.out k2_ (fun e => NB.out (Option.some.inj e))); have n1_ := Aside0.mk (pw_below_grown HB.out (some gb) HB.out.size k2_ (fun k e => by have e2 : gb = k := Option.some.inj e; rw [← e2]; exact GB.out)); have n2_ := Aside0.mk (M6.out.kept k2_ (fun e => NB6.out (Option.some.inj e))); have n3_ := Aside0.mk (M7.out.kept k2_ (fun e => NB7.out (Option.some.inj e))); clear BK HB M6 M7 BB; have BK := n0_; have HB := n1_; have M6 := n2_; have M7 := n3_; have BB := Aside0.mk k1_; clear n0_ n1_ n2_ n3_ k1_ k2_; have hcz0 := (blk_cell BK.out 0).trans rfl; have hcz1 := (blk_cell BK.out 1).trans rfl; have hcz2 := (blk_cell BK.out 2).trans rfl; have hcx0 := (blk_cell BB.out 0).trans rfl; have hcx1 := (blk_cell BB.out 1).trans rfl; have hcx2 := (blk_cell BB.out 2).trans rfl; have hcx3 := (blk_cell BB.out 3).trans rfl; have hlk : ∀ n : Nat, (Instr.lookup 100 (.map (some b7)) (.int .i64 (rd_T98 l0_2 i2).f2) false).run Try.prog (w8.drewN n) = .ok (.bool true) (w8.drewN n) := fun n => by have h_ := MapSet.look (M7.out.drewN n) Try.underlying3 Try.underlying4 Try.underlying100 (hzero _) (rd_T98 l0_2 i2).f2 (int_wf (by have := H2.out; omega)); rw [hdm] at h_; exact h_) | (go_at_call 79; (with_reducible refine (impl_within.calls (rd_T98 l0_2 i2).f1 1 (wrap64 (a0_0 - low)) true _ W1.out).mono ?_); rintro e w' ⟨rfl, ⟨nd, rfl⟩⟩) | (go_at_call 79; (with_reducible refine (impl_within.calls (rd_T98 l0_2 i2).f2 0 999 true _ W2.out).mono ?_); rintro e w' ⟨rfl, ⟨nd, rfl⟩⟩))
            go_ret
            exact ⟨by rw [hres.out]; rfl, by repeat (first | exact HB.out | apply pw_below_drewN)⟩
           ·have hdm : decide ((rd_T98 l0_2 i2).f2 ∈ ps) = false := decide_eq_false h4
            have c34 : ¬ (0 < (rd_T98 l0_2 i2).f2 ∧ (rd_T98 l0_2 i2).f2 ∈ ps) := fun h => h4 h.2
            have hnew : Aside0 (boxP a0_0 l0_2 0 [] [] = boxP a0_0 (l0_2.drop (i2 + 1).toNat) (low + (rd_T98 l0_2 i2).f1) ((rd_T98 l0_2 i2).f0 :: ls) ((rd_T98 l0_2 i2).f2 :: ps)) := ⟨by
             rw [hi.out, hdrop.out, show (i2 + 1).toNat = i2.toNat + 1 by have := hk.out.1; omega]
             simp only [boxP]
             rw [if_pos ⟨c0, H1.out, H2.out, c34⟩]⟩
            clear hi hdrop
            clear h3 h4 c34
            go_wp2_with (first | ((with_reducible refine gate_dst (N := 9) rfl ?_); refine bx (cs := #[.int .i64 0, .int .i64 0, .int .i64 0, .bool false]) (t := 98) fun gb hg w7 hbox hb => ?_; have n0_ := Aside0.mk (blk_below BK.out hb); have n1_ := Aside0.mk (below_step HB.out hb); have n2_ := Aside0.mk (M6.out.below hb); have n3_ := Aside0.mk (M7.out.below hb); have GB := Aside0.mk (by rw [hg]; exact HB.out.size : w.heap.size ≤ gb); have NB := Aside0.mk (by rw [hg]; exact Nat.ne_of_lt (blk_lt BK.out) : gc ≠ gb); have NB6 := Aside0.mk (by rw [hg]; exact Nat.ne_of_lt M6.out.lt : b6 ≠ gb); have NB7 := Aside0.mk (by rw [hg]; exact Nat.ne_of_lt M7.out.lt : b7 ≠ gb); have BB := Aside0.mk hbox; clear BK HB M6 M7; have BK := n0_; have HB := n1_; have M6 := n2_; have M7 := n3_; clear n0_ n1_ n2_ n3_ hbox hb hg; have hcy0 := (blk_cell BB.out 0).trans rfl; have hcy1 := (blk_cell BB.out 1).trans rfl; have hcy2 := (blk_cell BB.out 2).trans rfl; have hcy3 := (blk_cell BB.out 3).trans rfl; have hfy0 := blk_frozen BB.out 0; have hfy1 := blk_frozen BB.out 1; have hfy2 := blk_frozen BB.out 2; have hfy3 := blk_frozen BB.out 3) | ((with_reducible refine gate_store (t := 98) (p := 9) rfl ?_); refine store_event (t := 98) (p := 9) (v := ?vo) (w1 := ((((w7.setCell ⟨gb, 0, none⟩ (.int .i64 (rd_T98 l0_2 i2).f0)).setCell ⟨gb, 1, none⟩ (.int .i64 (rd_T98 l0_2 i2).f1)).setCell ⟨gb, 2, none⟩ (.int .i64 (rd_T98 l0_2 i2).f2)).setCell ⟨gb, 3, none⟩ (.bool (rd_T98 l0_2 i2).f3))) ?hg ?ho ?hn ?hr ?_; (case ho => rfl); (case hg => rfl); (case hn => rfl); (case hr => first | (go_simp; done) | (go_simp; rfl)); intro w8 hw; obtain ⟨k1_, k2_⟩ := box4 (.int .i64 (rd_T98 l0_2 i2).f0) (.int .i64 (rd_T98 l0_2 i2).f1) (.int .i64 (rd_T98 l0_2 i2).f2) (.bool (rd_T98 l0_2 i2).f3) BB.out; rw [← hw] at k1_ k2_; clear hw hcy0 hcy1 hcy2 hcy3 hfy0 hfy1 hfy2 hfy3; have n0_ := Aside0.mk (blk_grown BK.out k2_ (fun e => NB.out (Option.some.inj e))); have n1_ := Aside0.mk (pw_below_grown HB.out (some gb) HB.out.size k2_ (fun k e => by have e2 : gb = k := Option.some.inj e; rw [← e2]; exact GB.out)); have n2_ := Aside0.mk (M6.out.kept k2_ (fun e => NB6.out (Option.some.inj e))); have n3_ := Aside0.mk (M7.out.kept k2_ (fun e => NB7.out (Option.some.inj e))); clear BK HB M6 M7 BB; have BK := n0_; have HB := n1_; have M6 := n2_; have M7 := n3_; have BB := Aside0.mk k1_; clear n0_ n1_ n2_ n3_ k1_ k2_; have hcz0 := (blk_cell BK.out 0).trans rfl; have hcz1 := (blk_cell BK.out 1).trans rfl; have hcz2 := (blk_cell BK.out 2).trans rfl; have hcx0 := (blk_cell BB.out 0).trans rfl; have hcx1 := (blk_cell BB.out 1).trans rfl; have hcx2 := (blk_cell BB.out 2).trans rfl; have hcx3 := (blk_cell BB.out 3).trans rfl; have hlk : ∀ n : Nat, (Instr.lookup 100 (.map (some b7)) (.int .i64 (rd_T98 l0_2 i2).f2) false).run Try.prog (w8.drewN n) = .ok (.bool false) (w8.drewN n) := fun n => by have h_ := MapSet.look (M7.out.drewN n) Try.underlying3 Try.underlying4 Try.underlying100 (hzero _) (rd_T98 l0_2 i2).f2 (int_wf (by have := H2.out; omega)); rw [hdm] at h_; exact h_) | (go_at_call 79; (with_reducible refine (impl_within.calls (rd_T98 l0_2 i2).f1 1 (wrap64 (a0_0 - low)) true _ W1.out).mono ?_); rintro e w' ⟨rfl, ⟨nd, rfl⟩⟩) | (go_at_call 79; (with_reducible refine (impl_within.calls (rd_T98 l0_2 i2).f2 0 999 true _ W2.out).mono ?_); rintro e w' ⟨rfl, ⟨nd, rfl⟩⟩))
            refine wp_drewN (fun n_ => ?_)
            have n0_ := Aside0.mk (blk_drew (blk_drewN BK.out n_))
            have n1_ := Aside0.mk (show Below w.heap.size w (w8.drewN n_).drew from by apply below_drew1; apply pw_below_drewN; exact HB.out)
            have n2_ := Aside0.mk ((M6.out.drewN n_).drew)
            have n3_ := Aside0.mk ((M7.out.drewN n_).drew)
            have n4_ := Aside0.mk (blk_drew (blk_drewN BB.out n_))
            clear hcz0 hcz1 hcz2 hcx0 hcx1 hcx2 hcx3
            clear BK HB M6 M7 BB
            have BK := n0_
            have HB := n1_
            have M6 := n2_
            have M7 := n3_
            have BB := n4_
            clear n0_ n1_ n2_ n3_ n4_
            refine start_ (n := 8) (S := fun w' => w'.cell? ⟨gb, 0, none⟩ = some (.int .i64 (rd_T98 l0_2 i2).f0) ∧ w'.cell? ⟨gb, 2, none⟩ = some (.int .i64 (rd_T98 l0_2 i2).f2)) (ds := [7]) #[false, false, false, false, false, false, false, false] (by kernel_rfl) rfl rfl ⟨(blk_cell BB.out 0).trans rfl, (blk_cell BB.out 2).trans rfl⟩ (fun hHeld => ?_)
            generalize (w8.drewN n_).drew = w9 at BK HB M6 M7 BB hHeld ⊢
            refine pure_ (i := 0) (N := some 91) (v := ?_) (a' := ?_) #[true, false, false, false, false, false, false, false] rfl rfl (by kernel_rfl) (fun _ _ _ h => h) (Or.inl ⟨by rfl, ?_⟩) ?_ ?_
            rotate_left
            ·intro w'
             go_simp
             with_reducible rfl
            rotate_left
            ·simp only [Act.put, List.setIfInBounds_toArray, List.set_cons_zero, List.set_cons_succ, i64_w, i32_w]
             rfl
            refine pure_ (i := 1) (N := some 92) (v := ?_) (a' := ?_) #[true, true, false, false, false, false, false, false] rfl rfl (by kernel_rfl) (fun _ _ _ h => h) (Or.inl ⟨by rfl, ?_⟩) ?_ ?_
            rotate_left
            ·intro w'
             go_simp
             with_reducible rfl
            rotate_left
            ·simp only [Act.put, List.setIfInBounds_toArray, List.set_cons_zero, List.set_cons_succ, i64_w, i32_w]
             rfl
            refine take_ (i := 2) (N := some 93) (v := ?_) (a' := ?_) #[true, true, true, false, false, false, false, false] rfl rfl (by kernel_rfl) (fun _ _ _ h => h) (Or.inl ⟨by rfl, ?_⟩) hHeld ?_ ?_
            rotate_left
            ·rintro w' ⟨s0, s1⟩
             go_simp
             with_reducible rfl
            rotate_left
            ·simp only [Act.put, List.setIfInBounds_toArray, List.set_cons_zero, List.set_cons_succ, i64_w, i32_w]
             rfl
            refine pure_ (i := 3) (N := some 94) (v := ?_) (a' := ?_) #[true, true, true, true, false, false, false, false] rfl rfl (by kernel_rfl) (fun _ _ _ h => h) (Or.inl ⟨by rfl, ?_⟩) ?_ ?_
            rotate_left
            ·intro w'
             go_simp
             with_reducible rfl
            rotate_left
            ·simp only [Act.put, List.setIfInBounds_toArray, List.set_cons_zero, List.set_cons_succ, i64_w, i32_w]
             rfl
            refine pure_ (i := 4) (N := some 95) (v := ?_) (a' := ?_) #[true, true, true, true, true, false, false, false] rfl rfl (by kernel_rfl) (fun _ _ _ h => h) (Or.inl ⟨by rfl, ?_⟩) ?_ ?_
            rotate_left
            ·intro w'
             go_simp
             with_reducible rfl
            rotate_left
            ·simp only [Act.put, List.setIfInBounds_toArray, List.set_cons_zero, List.set_cons_succ, i64_w, i32_w]
             rfl
            refine take_ (i := 5) (N := some 96) (v := ?_) (a' := ?_) #[true, true, true, true, true, true, false, false] rfl rfl (by kernel_rfl) (fun _ _ _ h => h) (Or.inl ⟨by rfl, ?_⟩) hHeld ?_ ?_
            rotate_left
            ·rintro w' ⟨s0, s1⟩
             go_simp
             with_reducible rfl
            rotate_left
            ·simp only [Act.put, List.setIfInBounds_toArray, List.set_cons_zero, List.set_cons_succ, i64_w, i32_w]
             rfl
            obtain ⟨w10, p1_, p2_, p3_⟩ := MapSet.put M6.out Try.underlying3 Try.underlying4 Try.underlying100 (by have := hlen.out; have := hk.out; have := hlow.out; have := HH.out; unfold maxLen; omega) low (int_wf (by have := hlow.out; have := HH.out; omega))
            have n0_ := Aside0.mk (blk_grown BK.out p3_ (fun e => N6.out (Option.some.inj e)))
            have n1_ := Aside0.mk (pw_below_grown HB.out (some b6) HB.out.size p3_ (fun k e => by have e2 : b6 = k := Option.some.inj e; rw [← e2]; exact G6.out))
            have n2_ := Aside0.mk (show MapSet Try.prog 3 4 w10 b6 ((rd_T98 l0_2 i2).f0 :: ls) from by rw [c0]; exact p2_)
            have n3_ := Aside0.mk (M7.out.kept p3_ (fun e => N67.out (Option.some.inj e).symm))
            have n4_ := Aside0.mk (blk_grown BB.out p3_ (fun e => NB6.out (Option.some.inj e).symm))
            refine one_ (i := 6) (N := none) #[true, true, true, true, true, true, true, false] rfl rfl (by kernel_rfl) (by decide) (fun K hK => ?_)
            refine skip_ (w1 := w10) (by rfl) rfl ?_ ?_
            ·simp [execOp, Act.eval, p1_, Result.andThen]
            refine hK.out _ _ ⟨(blk_cell n4_.out 0).trans rfl, (blk_cell n4_.out 2).trans rfl⟩ (fun hHeld2 => ?_)
            clear hK K BK HB M6 M7 BB hHeld p1_ p2_ p3_
            have BK := n0_
            have HB := n1_
            have M6 := n2_
            have M7 := n3_
            have BB := n4_
            clear n0_ n1_ n2_ n3_ n4_ hHeld2
            obtain ⟨w11, p1_, p2_, p3_⟩ := MapSet.put M7.out Try.underlying3 Try.underlying4 Try.underlying100 (by have := hlen.out; have := hk.out; have := hlow.out; have := HH.out; unfold maxLen; omega) (rd_T98 l0_2 i2).f2 (int_wf (by have := H2.out; omega))
            have n0_ := Aside0.mk (blk_grown BK.out p3_ (fun e => N7.out (Option.some.inj e)))
            have n1_ := Aside0.mk (pw_below_grown HB.out (some b7) HB.out.size p3_ (fun k e => by have e2 : b7 = k := Option.some.inj e; rw [← e2]; exact G7.out))
            have n2_ := Aside0.mk (M6.out.kept p3_ (fun e => N67.out (Option.some.inj e)))
            have n3_ := Aside0.mk p2_
            have n4_ := Aside0.mk (blk_grown BB.out p3_ (fun e => NB7.out (Option.some.inj e).symm))
            refine last_ (i := 7) (N := none) #[true, true, true, true, true, true, true, true] rfl rfl (by kernel_rfl) (by decide) (fun K hK => ?_)
            refine skip_ (w1 := w11) (by rfl) rfl ?_ ?_
            ·simp [execOp, Act.eval, p1_, Result.andThen]
            refine hK.out _ _ ?_
            clear hK K BK HB M6 M7 BB p1_ p2_ p3_
            have BK := n0_
            have HB := n1_
            have M6 := n2_
            have M7 := n3_
            have BB := n4_
            clear n0_ n1_ n2_ n3_ n4_
            refine done_ (by kernel_rfl) ?_
            have hcx1 := (blk_cell BB.out 1).trans rfl
            have hwa : Aside0 (wrap64 (low + (rd_T98 l0_2 i2).f1) = low + (rd_T98 l0_2 i2).f1) := ⟨by have := hlow.out; have := H1.out; have := HH.out; unfold wrap64; omega⟩
            try go_wp2
            go_roundw
            case rel => exact ⟨i2 + 1, low + (rd_T98 l0_2 i2).f1, (rd_T98 l0_2 i2).f0 :: ls, (rd_T98 l0_2 i2).f2 :: ps, by rw [hwa.out], by rw [hwr.out], ⟨by have := hk.out; have := hlt2.out; omega⟩, hnew, ⟨by have := hlow.out; have := H1.out; omega⟩, ⟨by have := hlen.out; simp; omega⟩, M6, M7, BK, HB⟩
            case measure =>
             have := hk.out; have := hlt2.out
             rw [hwr.out]
             simp [intOf]
             omega
          ·have c3b : decide (0 < (rd_T98 l0_2 i2).f2) = false := decide_eq_false h3
           have c34 : ¬ (0 < (rd_T98 l0_2 i2).f2 ∧ (rd_T98 l0_2 i2).f2 ∈ ps) := fun h => h3 h.1
           have hnew : Aside0 (boxP a0_0 l0_2 0 [] [] = boxP a0_0 (l0_2.drop (i2 + 1).toNat) (low + (rd_T98 l0_2 i2).f1) ((rd_T98 l0_2 i2).f0 :: ls) ((rd_T98 l0_2 i2).f2 :: ps)) := ⟨by
            rw [hi.out, hdrop.out, show (i2 + 1).toNat = i2.toNat + 1 by have := hk.out.1; omega]
            simp only [boxP]
            rw [if_pos ⟨c0, H1.out, H2.out, c34⟩]⟩
           clear hi hdrop
           clear h3 c34
           go_wp2_with (first | ((with_reducible refine gate_dst (N := 9) rfl ?_); refine bx (cs := #[.int .i64 0, .int .i64 0, .int .i64 0, .bool false]) (t := 98) fun gb hg w7 hbox hb => ?_; have n0_ := Aside0.mk (blk_below BK.out hb); have n1_ := Aside0.mk (below_step HB.out hb); have n2_ := Aside0.mk (M6.out.below hb); have n3_ := Aside0.mk (M7.out.below hb); have GB := Aside0.mk (by rw [hg]; exact HB.out.size : w.heap.size ≤ gb); have NB := Aside0.mk (by rw [hg]; exact Nat.ne_of_lt (blk_lt BK.out) : gc ≠ gb); have NB6 := Aside0.mk (by rw [hg]; exact Nat.ne_of_lt M6.out.lt : b6 ≠ gb); have NB7 := Aside0.mk (by rw [hg]; exact Nat.ne_of_lt M7.out.lt : b7 ≠ gb); have BB := Aside0.mk hbox; clear BK HB M6 M7; have BK := n0_; have HB := n1_; have M6 := n2_; have M7 := n3_; clear n0_ n1_ n2_ n3_ hbox hb hg; have hcy0 := (blk_cell BB.out 0).trans rfl; have hcy1 := (blk_cell BB.out 1).trans rfl; have hcy2 := (blk_cell BB.out 2).trans rfl; have hcy3 := (blk_cell BB.out 3).trans rfl; have hfy0 := blk_frozen BB.out 0; have hfy1 := blk_frozen BB.out 1; have hfy2 := blk_frozen BB.out 2; have hfy3 := blk_frozen BB.out 3) | ((with_reducible refine gate_store (t := 98) (p := 9) rfl ?_); refine store_event (t := 98) (p := 9) (v := ?vo) (w1 := ((((w7.setCell ⟨gb, 0, none⟩ (.int .i64 (rd_T98 l0_2 i2).f0)).setCell ⟨gb, 1, none⟩ (.int .i64 (rd_T98 l0_2 i2).f1)).setCell ⟨gb, 2, none⟩ (.int .i64 (rd_T98 l0_2 i2).f2)).setCell ⟨gb, 3, none⟩ (.bool (rd_T98 l0_2 i2).f3))) ?hg ?ho ?hn ?hr ?_; (case ho => rfl); (case hg => rfl); (case hn => rfl); (case hr => first | (go_simp; done) | (go_simp; rfl)); intro w8 hw; obtain ⟨k1_, k2_⟩ := box4 (.int .i64 (rd_T98 l0_2 i2).f0) (.int .i64 (rd_T98 l0_2 i2).f1) (.int .i64 (rd_T98 l0_2 i2).f2) (.bool (rd_T98 l0_2 i2).f3) BB.out; rw [← hw] at k1_ k2_; clear hw hcy0 hcy1 hcy2 hcy3 hfy0 hfy1 hfy2 hfy3; have n0_ := Aside0.mk (blk_grown BK.out k2_ (fun e => NB.out (Option.some.inj e))); have n1_ := Aside0.mk (pw_below_grown HB.out (some gb) HB.out.size k2_ (fun k e => by have e2 : gb = k := Option.some.inj e; rw [← e2]; exact GB.out)); have n2_ := Aside0.mk (M6.out.kept k2_ (fun e => NB6.out (Option.some.inj e))); have n3_ := Aside0.mk (M7.out.kept k2_ (fun e => NB7.out (Option.some.inj e))); clear BK HB M6 M7 BB; have BK := n0_; have HB := n1_; have M6 := n2_; have M7 := n3_; have BB := Aside0.mk k1_; clear n0_ n1_ n2_ n3_ k1_ k2_; have hcz0 := (blk_cell BK.out 0).trans rfl; have hcz1 := (blk_cell BK.out 1).trans rfl; have hcz2 := (blk_cell BK.out 2).trans rfl; have hcx0 := (blk_cell BB.out 0).trans rfl; have hcx1 := (blk_cell BB.out 1).trans rfl; have hcx2 := (blk_cell BB.out 2).trans rfl; have hcx3 := (blk_cell BB.out 3).trans rfl) | (go_at_call 79; (with_reducible refine (impl_within.calls (rd_T98 l0_2 i2).f1 1 (wrap64 (a0_0 - low)) true _ W1.out).mono ?_); rintro e w' ⟨rfl, ⟨nd, rfl⟩⟩) | (go_at_call 79; (with_reducible refine (impl_within.calls (rd_T98 l0_2 i2).f2 0 999 true _ W2.out).mono ?_); rintro e w' ⟨rfl, ⟨nd, rfl⟩⟩))
           refine wp_drewN (fun n_ => ?_)
           have n0_ := Aside0.mk (blk_drew (blk_drewN BK.out n_))
           have n1_ := Aside0.mk (show Below w.heap.size w (w8.drewN n_).drew from by apply below_drew1; apply pw_below_drewN; exact HB.out)
           have n2_ := Aside0.mk ((M6.out.drewN n_).drew)
           have n3_ := Aside0.mk ((M7.out.drewN n_).drew)
           have n4_ := Aside0.mk (blk_drew (blk_drewN BB.out n_))
           clear hcz0 hcz1 hcz2 hcx0 hcx1 hcx2 hcx3
           clear BK HB M6 M7 BB
           have BK := n0_
           have HB := n1_
           have M6 := n2_
           have M7 := n3_
           have BB := n4_
           clear n0_ n1_ n2_ n3_ n4_
           refine start_ (n := 8) (S := fun w' => w'.cell? ⟨gb, 0, none⟩ = some (.int .i64 (rd_T98 l0_2 i2).f0) ∧ w'.cell? ⟨gb, 2, none⟩ = some (.int .i64 (rd_T98 l0_2 i2).f2)) (ds := [7]) #[false, false, false, false, false, false, false, false] (by kernel_rfl) rfl rfl ⟨(blk_cell BB.out 0).trans rfl, (blk_cell BB.out 2).trans rfl⟩ (fun hHeld => ?_)
           generalize (w8.drewN n_).drew = w9 at BK HB M6 M7 BB hHeld ⊢
           refine pure_ (i := 0) (N := some 91) (v := ?_) (a' := ?_) #[true, false, false, false, false, false, false, false] rfl rfl (by kernel_rfl) (fun _ _ _ h => h) (Or.inl ⟨by rfl, ?_⟩) ?_ ?_
           rotate_left
           ·intro w'
            go_simp
            with_reducible rfl
           rotate_left
           ·simp only [Act.put, List.setIfInBounds_toArray, List.set_cons_zero, List.set_cons_succ, i64_w, i32_w]
            rfl
           refine pure_ (i := 1) (N := some 92) (v := ?_) (a' := ?_) #[true, true, false, false, false, false, false, false] rfl rfl (by kernel_rfl) (fun _ _ _ h => h) (Or.inl ⟨by rfl, ?_⟩) ?_ ?_
           rotate_left
           ·intro w'
            go_simp
            with_reducible rfl
           rotate_left
           ·simp only [Act.put, List.setIfInBounds_toArray, List.set_cons_zero, List.set_cons_succ, i64_w, i32_w]
            rfl
           refine take_ (i := 2) (N := some 93) (v := ?_) (a' := ?_) #[true, true, true, false, false, false, false, false] rfl rfl (by kernel_rfl) (fun _ _ _ h => h) (Or.inl ⟨by rfl, ?_⟩) hHeld ?_ ?_
           rotate_left
           ·rintro w' ⟨s0, s1⟩
            go_simp
            with_reducible rfl
           rotate_left
           ·simp only [Act.put, List.setIfInBounds_toArray, List.set_cons_zero, List.set_cons_succ, i64_w, i32_w]
            rfl
           refine pure_ (i := 3) (N := some 94) (v := ?_) (a' := ?_) #[true, true, true, true, false, false, false, false] rfl rfl (by kernel_rfl) (fun _ _ _ h => h) (Or.inl ⟨by rfl, ?_⟩) ?_ ?_
           rotate_left
           ·intro w'
            go_simp
            with_reducible rfl
           rotate_left
           ·simp only [Act.put, List.setIfInBounds_toArray, List.set_cons_zero, List.set_cons_succ, i64_w, i32_w]
            rfl
           refine pure_ (i := 4) (N := some 95) (v := ?_) (a' := ?_) #[true, true, true, true, true, false, false, false] rfl rfl (by kernel_rfl) (fun _ _ _ h => h) (Or.inl ⟨by rfl, ?_⟩) ?_ ?_
           rotate_left
           ·intro w'
            go_simp
            with_reducible rfl
           rotate_left
           ·simp only [Act.put, List.setIfInBounds_toArray, List.set_cons_zero, List.set_cons_succ, i64_w, i32_w]
            rfl
           refine take_ (i := 5) (N := some 96) (v := ?_) (a' := ?_) #[true, true, true, true, true, true, false, false] rfl rfl (by kernel_rfl) (fun _ _ _ h => h) (Or.inl ⟨by rfl, ?_⟩) hHeld ?_ ?_
           rotate_left
           ·rintro w' ⟨s0, s1⟩
            go_simp
            with_reducible rfl
           rotate_left
           ·simp only [Act.put, List.setIfInBounds_toArray, List.set_cons_zero, List.set_cons_succ, i64_w, i32_w]
            rfl
           obtain ⟨w10, p1_, p2_, p3_⟩ := MapSet.put M6.out Try.underlying3 Try.underlying4 Try.underlying100 (by have := hlen.out; have := hk.out; have := hlow.out; have := HH.out; unfold maxLen; omega) low (int_wf (by have := hlow.out; have := HH.out; omega))
           have n0_ := Aside0.mk (blk_grown BK.out p3_ (fun e => N6.out (Option.some.inj e)))
           have n1_ := Aside0.mk (pw_below_grown HB.out (some b6) HB.out.size p3_ (fun k e => by have e2 : b6 = k := Option.some.inj e; rw [← e2]; exact G6.out))
           have n2_ := Aside0.mk (show MapSet Try.prog 3 4 w10 b6 ((rd_T98 l0_2 i2).f0 :: ls) from by rw [c0]; exact p2_)
           have n3_ := Aside0.mk (M7.out.kept p3_ (fun e => N67.out (Option.some.inj e).symm))
           have n4_ := Aside0.mk (blk_grown BB.out p3_ (fun e => NB6.out (Option.some.inj e).symm))
           refine one_ (i := 6) (N := none) #[true, true, true, true, true, true, true, false] rfl rfl (by kernel_rfl) (by decide) (fun K hK => ?_)
           refine skip_ (w1 := w10) (by rfl) rfl ?_ ?_
           ·simp [execOp, Act.eval, p1_, Result.andThen]
           refine hK.out _ _ ⟨(blk_cell n4_.out 0).trans rfl, (blk_cell n4_.out 2).trans rfl⟩ (fun hHeld2 => ?_)
           clear hK K BK HB M6 M7 BB hHeld p1_ p2_ p3_
           have BK := n0_
           have HB := n1_
           have M6 := n2_
           have M7 := n3_
           have BB := n4_
           clear n0_ n1_ n2_ n3_ n4_ hHeld2
           obtain ⟨w11, p1_, p2_, p3_⟩ := MapSet.put M7.out Try.underlying3 Try.underlying4 Try.underlying100 (by have := hlen.out; have := hk.out; have := hlow.out; have := HH.out; unfold maxLen; omega) (rd_T98 l0_2 i2).f2 (int_wf (by have := H2.out; omega))
           have n0_ := Aside0.mk (blk_grown BK.out p3_ (fun e => N7.out (Option.some.inj e)))
           have n1_ := Aside0.mk (pw_below_grown HB.out (some b7) HB.out.size p3_ (fun k e => by have e2 : b7 = k := Option.some.inj e; rw [← e2]; exact G7.out))
           have n2_ := Aside0.mk (M6.out.kept p3_ (fun e => N67.out (Option.some.inj e)))
           have n3_ := Aside0.mk p2_
           have n4_ := Aside0.mk (blk_grown BB.out p3_ (fun e => NB7.out (Option.some.inj e).symm))
           refine last_ (i := 7) (N := none) #[true, true, true, true, true, true, true, true] rfl rfl (by kernel_rfl) (by decide) (fun K hK => ?_)
           refine skip_ (w1 := w11) (by rfl) rfl ?_ ?_
           ·simp [execOp, Act.eval, p1_, Result.andThen]
           refine hK.out _ _ ?_
           clear hK K BK HB M6 M7 BB p1_ p2_ p3_
           have BK := n0_
           have HB := n1_
           have M6 := n2_
           have M7 := n3_
           have BB := n4_
           clear n0_ n1_ n2_ n3_ n4_
           refine done_ (by kernel_rfl) ?_
           have hcx1 := (blk_cell BB.out 1).trans rfl
           have hwa : Aside0 (wrap64 (low + (rd_T98 l0_2 i2).f1) = low + (rd_T98 l0_2 i2).f1) := ⟨by have := hlow.out; have := H1.out; have := HH.out; unfold wrap64; omega⟩
           try go_wp2
           go_roundw
           case rel => exact ⟨i2 + 1, low + (rd_T98 l0_2 i2).f1, (rd_T98 l0_2 i2).f0 :: ls, (rd_T98 l0_2 i2).f2 :: ps, by rw [hwa.out], by rw [hwr.out], ⟨by have := hk.out; have := hlt2.out; omega⟩, hnew, ⟨by have := hlow.out; have := H1.out; omega⟩, ⟨by have := hlen.out; simp; omega⟩, M6, M7, BK, HB⟩
           case measure =>
            have := hk.out; have := hlt2.out
            rw [hwr.out]
            simp [intOf]
            omega
         ·have W2 : Aside0 (impl_within.f (rd_T98 l0_2 i2).f2 0 999 = some false) := ⟨by rw [within_is, decide_eq_false h2]⟩
          have hres : Aside0 (r = false) := ⟨by
           rw [hr2.out, hi.out, hdrop.out]
           simp only [boxP]
           rw [if_neg (fun h => h2 h.2.2.1)]⟩
          clear hi hdrop
          clear h2
          go_wp2_with (first | ((with_reducible refine gate_dst (N := 9) rfl ?_); refine bx (cs := #[.int .i64 0, .int .i64 0, .int .i64 0, .bool false]) (t := 98) fun gb hg w7 hbox hb => ?_; have n0_ := Aside0.mk (blk_below BK.out hb); have n1_ := Aside0.mk (below_step HB.out hb); have n2_ := Aside0.mk (M6.out.below hb); have n3_ := Aside0.mk (M7.out.below hb); have GB := Aside0.mk (by rw [hg]; exact HB.out.size : w.heap.size ≤ gb); have NB := Aside0.mk (by rw [hg]; exact Nat.ne_of_lt (blk_lt BK.out) : gc ≠ gb); have NB6 := Aside0.mk (by rw [hg]; exact Nat.ne_of_lt M6.out.lt : b6 ≠ gb); have NB7 := Aside0.mk (by rw [hg]; exact Nat.ne_of_lt M7.out.lt : b7 ≠ gb); have BB := Aside0.mk hbox; clear BK HB M6 M7; have BK := n0_; have HB := n1_; have M6 := n2_; have M7 := n3_; clear n0_ n1_ n2_ n3_ hbox hb hg; have hcy0 := (blk_cell BB.out 0).trans rfl; have hcy1 := (blk_cell BB.out 1).trans rfl; have hcy2 := (blk_cell BB.out 2).trans rfl; have hcy3 := (blk_cell BB.out 3).trans rfl; have hfy0 := blk_frozen BB.out 0; have hfy1 := blk_frozen BB.out 1; have hfy2 := blk_frozen BB.out 2; have hfy3 := blk_frozen BB.out 3) | ((with_reducible refine gate_store (t := 98) (p := 9) rfl ?_); refine store_event (t := 98) (p := 9) (v := ?vo) (w1 := ((((w7.setCell ⟨gb, 0, none⟩ (.int .i64 (rd_T98 l0_2 i2).f0)).setCell ⟨gb, 1, none⟩ (.int .i64 (rd_T98 l0_2 i2).f1)).setCell ⟨gb, 2, none⟩ (.int .i64 (rd_T98 l0_2 i2).f2)).setCell ⟨gb, 3, none⟩ (.bool (rd_T98 l0_2 i2).f3))) ?hg ?ho ?hn ?hr ?_; (case ho => rfl); (case hg => rfl); (case hn => rfl); (case hr => first | (go_simp; done) | (go_simp; rfl)); intro w8 hw; obtain ⟨k1_, k2_⟩ := box4 (.int .i64 (rd_T98 l0_2 i2).f0) (.int .i64 (rd_T98 l0_2 i2).f1) (.int .i64 (rd_T98 l0_2 i2).f2) (.bool (rd_T98 l0_2 i2).f3) BB.out; rw [← hw] at k1_ k2_; clear hw hcy0 hcy1 hcy2 hcy3 hfy0 hfy1 hfy2 hfy3; have n0_ := Aside0.mk (blk_grown BK.out k2_ (fun e => NB.out (Option.some.inj e))); have n1_ := Aside0.mk (pw_below_grown HB.out (some gb) HB.out.size k2_ (fun k e => by have e2 : gb = k := Option.some.inj e; rw [← e2]; exact GB.out)); have n2_ := Aside0.mk (M6.out.kept k2_ (fun e => NB6.out (Option.some.inj e))); have n3_ := Aside0.mk (M7.out.kept k2_ (fun e => NB7.out (Option.some.inj e))); clear BK HB M6 M7 BB; have BK := n0_; have HB := n1_; have M6 := n2_; have M7 := n3_; have BB := Aside0.mk k1_; clear n0_ n1_ n2_ n3_ k1_ k2_; have hcz0 := (blk_cell BK.out 0).trans rfl; have hcz1 := (blk_cell BK.out 1).trans rfl; have hcz2 := (blk_cell BK.out 2).trans rfl; have hcx0 := (blk_cell BB.out 0).trans rfl; have hcx1 := (blk_cell BB.out 1).trans rfl; have hcx2 := (blk_cell BB.out 2).trans rfl; have hcx3 := (blk_cell BB.out 3).trans rfl) | (go_at_call 79; (with_reducible refine (impl_within.calls (rd_T98 l0_2 i2).f1 1 (wrap64 (a0_0 - low)) true _ W1.out).mono ?_); rintro e w' ⟨rfl, ⟨nd, rfl⟩⟩) | (go_at_call 79; (with_reducible refine (impl_within.calls (rd_T98 l0_2 i2).f2 0 999 false _ W2.out).mono ?_); rintro e w' ⟨rfl, ⟨nd, rfl⟩⟩))
          go_ret
          exact ⟨by rw [hres.out]; rfl, by repeat (first | exact HB.out | apply pw_below_drewN)⟩
        ·have W1 : Aside0 (impl_within.f (rd_T98 l0_2 i2).f1 1 (wrap64 (a0_0 - low)) = some false) := ⟨by rw [within_is, hwl.out, decide_eq_false h1]⟩
         have hres : Aside0 (r = false) := ⟨by
          rw [hr2.out, hi.out, hdrop.out]
          simp only [boxP]
          rw [if_neg (fun h => h1 h.2.1)]⟩
         clear hi hdrop
         clear h1
         go_wp2_with (first | ((with_reducible refine gate_dst (N := 9) rfl ?_); refine bx (cs := #[.int .i64 0, .int .i64 0, .int .i64 0, .bool false]) (t := 98) fun gb hg w7 hbox hb => ?_; have n0_ := Aside0.mk (blk_below BK.out hb); have n1_ := Aside0.mk (below_step HB.out hb); have n2_ := Aside0.mk (M6.out.below hb); have n3_ := Aside0.mk (M7.out.below hb); have GB := Aside0.mk (by rw [hg]; exact HB.out.size : w.heap.size ≤ gb); have NB := Aside0.mk (by rw [hg]; exact Nat.ne_of_lt (blk_lt BK.out) : gc ≠ gb); have NB6 := Aside0.mk (by rw [hg]; exact Nat.ne_of_lt M6.out.lt : b6 ≠ gb); have NB7 := Aside0.mk (by rw [hg]; exact Nat.ne_of_lt M7.out.lt : b7 ≠ gb); have BB := Aside0.mk hbox; clear BK HB M6 M7; have BK := n0_; have HB := n1_; have M6 := n2_; have M7 := n3_; clear n0_ n1_ n2_ n3_ hbox hb hg; have hcy0 := (blk_cell BB.out 0).trans rfl; have hcy1 := (blk_cell BB.out 1).trans rfl; have hcy2 := (blk_cell BB.out 2).trans rfl; have hcy3 := (blk_cell BB.out 3).trans rfl; have hfy0 := blk_frozen BB.out 0; have hfy1 := blk_frozen BB.out 1; have hfy2 := blk_frozen BB.out 2; have hfy3 := blk_frozen BB.out 3) | ((with_reducible refine gate_store (t := 98) (p := 9) rfl ?_); refine store_event (t := 98) (p := 9) (v := ?vo) (w1 := ((((w7.setCell ⟨gb, 0, none⟩ (.int .i64 (rd_T98 l0_2 i2).f0)).setCell ⟨gb, 1, none⟩ (.int .i64 (rd_T98 l0_2 i2).f1)).setCell ⟨gb, 2, none⟩ (.int .i64 (rd_T98 l0_2 i2).f2)).setCell ⟨gb, 3, none⟩ (.bool (rd_T98 l0_2 i2).f3))) ?hg ?ho ?hn ?hr ?_; (case ho => rfl); (case hg => rfl); (case hn => rfl); (case hr => first | (go_simp; done) | (go_simp; rfl)); intro w8 hw; obtain ⟨k1_, k2_⟩ := box4 (.int .i64 (rd_T98 l0_2 i2).f0) (.int .i64 (rd_T98 l0_2 i2).f1) (.int .i64 (rd_T98 l0_2 i2).f2) (.bool (rd_T98 l0_2 i2).f3) BB.out; rw [← hw] at k1_ k2_; clear hw hcy0 hcy1 hcy2 hcy3 hfy0 hfy1 hfy2 hfy3; have n0_ := Aside0.mk (blk_grown BK.out k2_ (fun e => NB.out (Option.some.inj e))); have n1_ := Aside0.mk (pw_below_grown HB.out (some gb) HB.out.size k2_ (fun k e => by have e2 : gb = k := Option.some.inj e; rw [← e2]; exact GB.out)); have n2_ := Aside0.mk (M6.out.kept k2_ (fun e => NB6.out (Option.some.inj e))); have n3_ := Aside0.mk (M7.out.kept k2_ (fun e => NB7.out (Option.some.inj e))); clear BK HB M6 M7 BB; have BK := n0_; have HB := n1_; have M6 := n2_; have M7 := n3_; have BB := Aside0.mk k1_; clear n0_ n1_ n2_ n3_ k1_ k2_; have hcz0 := (blk_cell BK.out 0).trans rfl; have hcz1 := (blk_cell BK.out 1).trans rfl; have hcz2 := (blk_cell BK.out 2).trans rfl; have hcx0 := (blk_cell BB.out 0).trans rfl; have hcx1 := (blk_cell BB.out 1).trans rfl; have hcx2 := (blk_cell BB.out 2).trans rfl; have hcx3 := (blk_cell BB.out 3).trans rfl) | (go_at_call 79; (with_reducible refine (impl_within.calls (rd_T98 l0_2 i2).f1 1 (wrap64 (a0_0 - low)) false _ W1.out).mono ?_); rintro e w' ⟨rfl, ⟨nd, rfl⟩⟩))
         go_ret
         exact ⟨by rw [hres.out]; rfl, by repeat (first | exact HB.out | apply pw_below_drewN)⟩
       ·have c0b : ((rd_T98 l0_2 i2).f0 != low) = true := by simpa using c0
        have hres : Aside0 (r = false) := ⟨by
         rw [hr2.out, hi.out, hdrop.out]
         simp only [boxP]
         rw [if_neg (fun h => c0 h.1)]⟩
        clear c0 hi hdrop
        go_wp2_with (first | ((with_reducible refine gate_dst (N := 9) rfl ?_); refine bx (cs := #[.int .i64 0, .int .i64 0, .int .i64 0, .bool false]) (t := 98) fun gb hg w7 hbox hb => ?_; have n0_ := Aside0.mk (blk_below BK.out hb); have n1_ := Aside0.mk (below_step HB.out hb); have n2_ := Aside0.mk (M6.out.below hb); have n3_ := Aside0.mk (M7.out.below hb); have GB := Aside0.mk (by rw [hg]; exact HB.out.size : w.heap.size ≤ gb); have NB := Aside0.mk (by rw [hg]; exact Nat.ne_of_lt (blk_lt BK.out) : gc ≠ gb); have NB6 := Aside0.mk (by rw [hg]; exact Nat.ne_of_lt M6.out.lt : b6 ≠ gb); have NB7 := Aside0.mk (by rw [hg]; exact Nat.ne_of_lt M7.out.lt : b7 ≠ gb); have BB := Aside0.mk hbox; clear BK HB M6 M7; have BK := n0_; have HB := n1_; have M6 := n2_; have M7 := n3_; clear n0_ n1_ n2_ n3_ hbox hb hg; have hcy0 := (blk_cell BB.out 0).trans rfl; have hcy1 := (blk_cell BB.out 1).trans rfl; have hcy2 := (blk_cell BB.out 2).trans rfl; have hcy3 := (blk_cell BB.out 3).trans rfl; have hfy0 := blk_frozen BB.out 0; have hfy1 := blk_frozen BB.out 1; have hfy2 := blk_frozen BB.out 2; have hfy3 := blk_frozen BB.out 3) | ((with_reducible refine gate_store (t := 98) (p := 9) rfl ?_); refine store_event (t := 98) (p := 9) (v := ?vo) (w1 := ((((w7.setCell ⟨gb, 0, none⟩ (.int .i64 (rd_T98 l0_2 i2).f0)).setCell ⟨gb, 1, none⟩ (.int .i64 (rd_T98 l0_2 i2).f1)).setCell ⟨gb, 2, none⟩ (.int .i64 (rd_T98 l0_2 i2).f2)).setCell ⟨gb, 3, none⟩ (.bool (rd_T98 l0_2 i2).f3))) ?hg ?ho ?hn ?hr ?_; (case ho => rfl); (case hg => rfl); (case hn => rfl); (case hr => first | (go_simp; done) | (go_simp; rfl)); intro w8 hw; obtain ⟨k1_, k2_⟩ := box4 (.int .i64 (rd_T98 l0_2 i2).f0) (.int .i64 (rd_T98 l0_2 i2).f1) (.int .i64 (rd_T98 l0_2 i2).f2) (.bool (rd_T98 l0_2 i2).f3) BB.out; rw [← hw] at k1_ k2_; clear hw hcy0 hcy1 hcy2 hcy3 hfy0 hfy1 hfy2 hfy3; have n0_ := Aside0.mk (blk_grown BK.out k2_ (fun e => NB.out (Option.some.inj e))); have n1_ := Aside0.mk (pw_below_grown HB.out (some gb) HB.out.size k2_ (fun k e => by have e2 : gb = k := Option.some.inj e; rw [← e2]; exact GB.out)); have n2_ := Aside0.mk (M6.out.kept k2_ (fun e => NB6.out (Option.some.inj e))); have n3_ := Aside0.mk (M7.out.kept k2_ (fun e => NB7.out (Option.some.inj e))); clear BK HB M6 M7 BB; have BK := n0_; have HB := n1_; have M6 := n2_; have M7 := n3_; have BB := Aside0.mk k1_; clear n0_ n1_ n2_ n3_ k1_ k2_; have hcz0 := (blk_cell BK.out 0).trans rfl; have hcz1 := (blk_cell BK.out 1).trans rfl; have hcz2 := (blk_cell BK.out 2).trans rfl; have hcx0 := (blk_cell BB.out 0).trans rfl; have hcx1 := (blk_cell BB.out 1).trans rfl; have hcx2 := (blk_cell BB.out 2).trans rfl; have hcx3 := (blk_cell BB.out 3).trans rfl))
        go_ret
        exact ⟨by rw [hres.out]; rfl, by repeat (first | exact HB.out | apply pw_below_drewN)⟩
      ·have hltb : decide (i2 < (l0_2.length : Int)) = false := decide_eq_false hlt
       have hr3 : Aside0 (r = (l0_1.all (fun f => decide (f ∈ ls)) && decide (low = a0_0))) := ⟨by
        rw [hr2.out, hi.out, List.drop_eq_nil_of_le (by omega)]
        simp only [boxP]⟩
       have hcz0 := (blk_cell BK.out 0).trans rfl
       have hcz1 := (blk_cell BK.out 1).trans rfl
       have hcz2 := (blk_cell BK.out 2).trans rfl
       clear hlt hi hk hlen M7
       go_wp2
       clear hcz0 hcz1 hcz2
       go_loopw [105] (fun v105 wr => ∃ i3 : Int, v105 = .int .i64 i3 ∧ Aside0 (0 ≤ i3 ∧ i3 ≤ l0_1.length) ∧ Aside0 (r = ((l0_1.drop i3.toNat).all (fun f => decide (f ∈ ls)) && decide (low = a0_0))) ∧ Aside0 (MapSet Try.prog 3 4 wr b6 ls) ∧ Aside0 (wr.heap[gc]? = some (.cells #[.int .i64 a0_0, .slice A0_1 l0_1.length c0_1, .slice A0_2 l0_2.length c0_2] 41 (0, 0))) ∧ Aside0 (Below w.heap.size w wr)) (fun v105 _ => l0_1.length - (intOf v105).toNat)
       case atStart => exact ⟨0, rfl, ⟨by omega⟩, hr3, M6, BK, HB⟩
       case round =>
        clear M6 BK HB hr3
        obtain ⟨i3, rfl, hk3, hr3, M6, BK, HB⟩ := hrel
        have hcz0 := (blk_cell BK.out 0).trans rfl
        have hcz1 := (blk_cell BK.out 1).trans rfl
        have hcz2 := (blk_cell BK.out 2).trans rfl
        by_cases hlt3 : i3 < (l0_1.length : Int)
        ·have hdrop3 : Aside0 (l0_1.drop i3.toNat = rd l0_1 i3 :: l0_1.drop (i3.toNat + 1)) := ⟨by
          have hn : i3.toNat < l0_1.length := by have := hk3.out.1; omega
          rw [List.drop_eq_getElem_cons hn]
          unfold rd
          rw [List.getD_eq_getElem?_getD, List.getElem?_eq_getElem hn]; rfl⟩
         obtain ⟨ad3, e1, h0⟩ := Kd.at_int HR1.out i3 hk3.out.1 hlt3
         subst e1
         replace h0 := (HB.out.cell (World.block_lt_of_cell? w _ h0)).trans h0
         have q0 := eq_true hk3.out.1
         have q1 := eq_true hlt3
         have hltb3 : decide (i3 < (l0_1.length : Int)) = true := decide_eq_true hlt3
         have hwr3 : Aside0 (wrap64 (i3 + 1) = i3 + 1) := ⟨by have := hk3.out; have := L1.out; unfold wrap64; omega⟩
         have hf3 : Aside0 (1 ≤ rd l0_1 i3 ∧ rd l0_1 i3 ≤ a0_0 - 1) := ⟨fix_in a0_0 l0_1 none hfix.out _ (List.mem_of_mem_drop (hdrop3.out ▸ List.mem_cons_self))⟩
         have hlt32 := Aside0.mk hlt3
         clear hlt3
         have hlk := MapSet.look M6.out Try.underlying3 Try.underlying4 Try.underlying100 (hzero _) (rd l0_1 i3) (int_wf (by have := hf3.out; have := HH.out; omega))
         by_cases hm : rd l0_1 i3 ∈ ls
         ·rw [decide_eq_true hm] at hlk
          have hres : Aside0 (r = ((l0_1.drop (i3 + 1).toNat).all (fun f => decide (f ∈ ls)) && decide (low = a0_0))) := ⟨by
           rw [hr3.out, hdrop3.out, show (i3 + 1).toNat = i3.toNat + 1 by have := hk3.out.1; omega, List.all_cons, decide_eq_true hm, Bool.true_and]⟩
          clear hr3 hdrop3 hm
          go_wp2
          go_roundw
          case rel => exact ⟨i3 + 1, by rw [hwr3.out], ⟨by have := hk3.out; have := hlt32.out; omega⟩, hres, M6, BK, HB⟩
          case measure =>
           have := hk3.out; have := hlt32.out
           rw [hwr3.out]
           simp [intOf]
           omega
         ·rw [decide_eq_false hm] at hlk
          have hres : Aside0 (r = false) := ⟨by
           rw [hr3.out, hdrop3.out, List.all_cons, decide_eq_false hm, Bool.false_and, Bool.false_and]⟩
          clear hr3 hdrop3 hm
          go_wp2
          go_ret
          exact ⟨by rw [hres.out]; rfl, HB.out⟩
        ·have hltb3 : decide (i3 < (l0_1.length : Int)) = false := decide_eq_false hlt3
         have hres : Aside0 (r = decide (low = a0_0)) := ⟨by
          rw [hr3.out, List.drop_eq_nil_of_le (by omega), List.all_nil, Bool.true_and]⟩
         clear hr3 hlt3
         go_wp2
         go_ret
         exact ⟨by rw [hres.out]; rfl, HB.out⟩
 ·have hW : Aside0 (impl_within.f a0_0 1 24 = some false) := ⟨by rw [within_is, decide_eq_false hh]⟩
  have hr1 : Aside0 (r = false) := ⟨by rw [← hrE.out]; unfold colP; rw [decide_eq_false hh]; rfl⟩
  clear hh hrE
  go_enter Try.func34, Try.ntmps34
  go_wp2_with (first | ((with_reducible refine gate_dst (N := 1) rfl ?_); refine bx (cs := #[.int .i64 a0_0, .slice A0_1 l0_1.length c0_1, .slice A0_2 l0_2.length c0_2]) (t := 41) fun gc hg w2 hbox hb => ?_; have HB2 := Aside0.mk (below_step HB.out hb); have BK := Aside0.mk hbox; have GE := Aside0.mk (by rw [hg]; exact Nat.le_refl _ : w.heap.size ≤ gc); clear HB hb hbox hg; have hcz0 := (blk_cell BK.out 0).trans rfl; have hcz1 := (blk_cell BK.out 1).trans rfl; have hcz2 := (blk_cell BK.out 2).trans rfl) | (go_at_call 79; (with_reducible refine (impl_within.calls a0_0 1 24 false _ hW.out).mono ?_); rintro e w' ⟨rfl, ⟨nd, rfl⟩⟩))
  go_ret
  exact ⟨by rw [hr1.out]; rfl, by repeat (first | exact HB2.out | apply pw_below_drewN)⟩
end Go.Proofs.Ytbpjidekjogfeaa.A

namespace Go.Proofs.Ytbpjidekjogfeaa.A
open Go.RowKit Go.Proofs.YtbpjidekjogfeaaW.PrintWords Go.Proofs.YtbpjidekjogfeaaW.PrintLast Go.Proofs.YtbpjidekjogfeaaW.PrintMore
attribute [local go_sem] max2_int min2_int max_two min_two max_three min_three max_four min_four   
set_option linter.unusedVariables false
set_option linter.unusedSimpArgs false
def spec_l02Copy.f (a0_0 : Int) (l0_1 : List Int) (l0_2 : List (S98)) : Option (Int × List Int × (List (S98))) := (some (([] : List Int) : List Int)).bind fun y287 => (if y287.length + l0_1.length < 17592186044416 then ((some (([] : List (S98)) : List (S98))).bind fun y293 => (if y293.length + l0_2.length < 4398046511104 then (some (a0_0, (y287 ++ l0_1), (y293 ++ l0_2))) else (none))) else (none))
def spec_l02Copy.T1 : Bool × List (List Nat × List Nat) := (true, [([], []), ([0], [0]), ([], []), ([], []), ([3], [3]), ([2, 4], [2, 4]), ([], []), ([], []), ([7], [7]), ([6, 8, 5], [6, 8]), ([1, 5, 9], [1, 5, 9]), ([10, 9, 0, 1, 2, 3, 4, 5, 6, 7, 8, 9, 10], [10])])
def spec_l02Copy.B1 : List Nat := [0, 1, 0, 0, 8, 28, 0, 0, 128, 508, 1023, 2047]
theorem spec_l02Copy.tab1 : rtab .any (opsOf Try.f86 1) = spec_l02Copy.T1 := by kernel_rfl
theorem spec_l02Copy.bits1 : waitsOk spec_l02Copy.T1.2 spec_l02Copy.B1 = true := by kernel_rfl
set_option maxHeartbeats 8000000 in
set_option maxRecDepth 100000 in
theorem spec_l02Copy.calls (a0_0 : Int) (A0_1 : Option Addr) (c0_1 : Nat) (l0_1 : List Int) (A0_2 : Option Addr) (c0_2 : Nat) (l0_2 : List (S98)) (r1 : Int) (r2 : List Int) (r3 : List (S98)) (w : World) (hr0_1 : Kd.C (Kd.int .i64) w A0_1 l0_1.length l0_1) (hc0_1 : l0_1.length ≤ c0_1) (hr0_2 : Kd.C k98 w A0_2 l0_2.length l0_2) (hc0_2 : l0_2.length ≤ c0_2) (h : spec_l02Copy.f a0_0 l0_1 l0_2 = some (r1, r2, r3)) :
  Calls Try.prog 86 #[.agg #[.int .i64 a0_0, .slice A0_1 l0_1.length c0_1, .slice A0_2 l0_2.length c0_2]] w fun e w' => ∃ v1_ v2_ : Value, e = .returned (.agg #[.int .i64 r1, v1_, v2_]) ∧ Kd.R (Kd.int .i64) 3 w' w.heap.size (fun _ => True) v1_ r2 ∧ Kd.R k98 98 w' w.heap.size (fun _ => True) v2_ r3 ∧ Below w.heap.size w w' := by
 have hu41 := Try.underlying41
 have HR0_1 := Aside0.mk hr0_1
 have HC0_1 := Aside0.mk hc0_1
 clear hr0_1 hc0_1
 have HR0_2 := Aside0.mk hr0_2
 have HC0_2 := Aside0.mk hc0_2
 clear hr0_2 hc0_2
 have HB := Aside0.mk (Below.refl w.heap.size w)
 have H : ((some (([] : List Int) : List Int)).bind fun y287 => (if y287.length + l0_1.length < 17592186044416 then ((some (([] : List (S98)) : List (S98))).bind fun y293 => (if y293.length + l0_2.length < 4398046511104 then (some (a0_0, (y287 ++ l0_1), (y293 ++ l0_2))) else (none))) else (none))) = some (r1, r2, r3) := h
 clear h
 obtain ⟨y287, hy287⟩ : ∃ y_ : List Int, y_ = (([] : List Int)) := ⟨_, rfl⟩
 replace H : (if y287.length + l0_1.length < 17592186044416 then ((some (([] : List (S98)) : List (S98))).bind fun y293 => (if y293.length + l0_2.length < 4398046511104 then (some (a0_0, (y287 ++ l0_1), (y293 ++ l0_2))) else (none))) else (none)) = some (r1, r2, r3) := by first | (rw [hy287]; with_reducible exact H) | (have H2_ := (Option.bind_some _ _).symm.trans H; rw [hy287]; with_reducible exact H2_) | (have H2_ := (Option.bind_some _ _).symm.trans H; with_reducible exact H2_) | with_reducible exact H | (rw [hy287]; exact H) | exact H
 have Ny287 := Aside0.mk hy287
 clear hy287
 by_cases c2 : y287.length + l0_1.length < 17592186044416
 ·rw [if_pos c2] at H
  have LMc2 := Aside0.mk c2
  clear c2
  obtain ⟨y290, hy290⟩ : ∃ y_ : List Int, y_ = (y287 ++ l0_1) := ⟨_, rfl⟩
  replace H : ((some (([] : List (S98)) : List (S98))).bind fun y293 => (if y293.length + l0_2.length < 4398046511104 then (some (a0_0, y290, (y293 ++ l0_2))) else (none))) = some (r1, r2, r3) := by first | (rw [hy290]; with_reducible exact H) | (have H2_ := (Option.bind_some _ _).symm.trans H; rw [hy290]; with_reducible exact H2_) | (have H2_ := (Option.bind_some _ _).symm.trans H; with_reducible exact H2_) | with_reducible exact H | (rw [hy290]; exact H) | exact H
  have Ny290 := Aside0.mk hy290
  clear hy290
  obtain ⟨y293, hy293⟩ : ∃ y_ : List (S98), y_ = (([] : List (S98))) := ⟨_, rfl⟩
  replace H : (if y293.length + l0_2.length < 4398046511104 then (some (a0_0, y290, (y293 ++ l0_2))) else (none)) = some (r1, r2, r3) := by first | (rw [hy293]; with_reducible exact H) | (have H2_ := (Option.bind_some _ _).symm.trans H; rw [hy293]; with_reducible exact H2_) | (have H2_ := (Option.bind_some _ _).symm.trans H; with_reducible exact H2_) | with_reducible exact H | (rw [hy293]; exact H) | exact H
  have Ny293 := Aside0.mk hy293
  clear hy293
  by_cases c3 : y293.length + l0_2.length < 4398046511104
  ·rw [if_pos c3] at H
   have LMc3 := Aside0.mk c3
   clear c3
   obtain ⟨y296, hy296⟩ : ∃ y_ : List (S98), y_ = (y293 ++ l0_2) := ⟨_, rfl⟩
   replace H : (some (a0_0, y290, y296)) = some (r1, r2, r3) := by first | (rw [hy296]; with_reducible exact H) | (have H2_ := (Option.bind_some _ _).symm.trans H; rw [hy296]; with_reducible exact H2_) | (have H2_ := (Option.bind_some _ _).symm.trans H; with_reducible exact H2_) | with_reducible exact H | (rw [hy296]; exact H) | exact H
   have Ny296 := Aside0.mk hy296
   clear hy296
   simp only [Option.some.injEq, Prod.mk.injEq] at H
   obtain ⟨rfl, rfl, rfl⟩ := H
   go_enter Try.func86, Try.ntmps86
   try go_wp2_with (first | ((with_reducible refine gate_dst (N := 1) rfl ?_); refine bx (cs := #[.int .i64 a0_0, .slice A0_1 l0_1.length c0_1, .slice A0_2 l0_2.length c0_2]) (t := 41) fun gb285 hg w4 hbox hb => ?_; have BK285 := Aside0.mk (hbox); have GW285 := Aside0.mk (gs HB.out hg); have GE285 := Aside0.mk (gs HB.out hg); replace HB := Aside0.mk (below_step (bl HB.out) hb); clear hb hbox hg) | ((with_reducible refine gate_dst (N := 2) rfl ?_); refine bx (cs := #[.int .i64 0, .slice none 0 0, .slice none 0 0]) (t := 41) fun gb286 hg w5 hbox hb => ?_; have BK286 := Aside0.mk (hbox); have GW286 := Aside0.mk (gs HB.out hg); have GE286 := Aside0.mk (gs HB.out hg); replace HB := Aside0.mk (below_step (bl HB.out) hb); have NB285_286 := Aside0.mk ((nl BK285.out hg)); have NB286_285 := Aside0.mk ((ng BK285.out hg)); replace BK285 := Aside0.mk (bb BK285.out hb); clear hb hbox hg))
   replace BK285 := Aside0.mk (blk_drew BK285.out)
   replace BK286 := Aside0.mk (blk_drew BK286.out)
   replace HB := Aside0.mk (below_drew1 HB.out)
   refine start_ (n := 12) (S := fun w' => w'.cell? ⟨gb285, 0, none⟩ = some (.int .i64 a0_0) ∧ w'.cell? ⟨gb285, 1, none⟩ = some (.slice A0_1 l0_1.length c0_1) ∧ w'.cell? ⟨gb285, 2, none⟩ = some (.slice A0_2 l0_2.length c0_2)) (ds := []) #[false, false, false, false, false, false, false, false, false, false, false, false] (by kernel_rfl) rfl rfl ⟨(blk_cell BK285.out 0).trans rfl, (blk_cell BK285.out 1).trans rfl, (blk_cell BK285.out 2).trans rfl⟩ (fun hHeld => ?_); refine with_tabW spec_l02Copy.tab1 spec_l02Copy.bits1 (fun HT_ HW_ => ?_)
   generalize w5.drew = w6 at BK285 BK286 HB hHeld ⊢
   refine puA (i := 0) (N := some 3) HT_.out ?_
   refine puA (i := 3) (N := some 6) HT_.out ?_
   refine puA (i := 7) (N := some 10) HT_.out ?_
   refine tkA3 (i := 1) (N := some 4) HT_.out HW_.out hHeld ?_
   refine tkA3 (i := 4) (N := some 7) HT_.out HW_.out hHeld ?_
   refine tkA3 (i := 8) (N := some 11) HT_.out HW_.out hHeld ?_
   refine join_ (σ := Value × Value × Value) 3 #[true, true, true, true, true, true, true, true, true, false, false, false] (fun s_ => [(5, s_.1), (8, s_.2.1), (9, s_.2.2)]) (fun s_ w' => (w'.cell? ⟨gb285, 0, none⟩ = some (.int .i64 a0_0) ∧ w'.cell? ⟨gb285, 1, none⟩ = some (.slice A0_1 l0_1.length c0_1) ∧ w'.cell? ⟨gb285, 2, none⟩ = some (.slice A0_2 l0_2.length c0_2)) ∧ (Kd.R (Kd.int .i64) 3 w' w.heap.size (fun _ => True) s_.2.1 y290) ∧ (Kd.R k98 98 w' w.heap.size (fun _ => True) s_.2.2 y293) ∧ (w'.heap[gb285]? = some (.cells #[.int .i64 a0_0, .slice A0_1 l0_1.length c0_1, .slice A0_2 l0_2.length c0_2] 41 (0, 0))) ∧ (w'.heap[gb286]? = some (.cells #[.int .i64 0, .slice none 0 0, .slice none 0 0] 41 (0, 0))) ∧ (Below w.heap.size w w')) ?_ ?_
   rotate_left
   ·intro hCont
    refine two_ (i := 2) (j := 6) (Ni := some 5) (Nj := some 9) #[true, true, true, true, true, false, false, true, true, false, false, false] #[true, true, false, true, true, false, true, true, true, false, false, false] rfl rfl rfl rfl (two_of HT_.out (by kernel_rfl)) (by decide) (by decide) (fun K hK => ?_) (fun K hK => ?_)
    ·skip
     refine Kd.R_lit_step (Kd.int .i64) _ 3 ?hg (N := 5) ?hd (xs := ([] : List Int)) (inner := []) (ok := fun _ => True) (okp := fun _ => True) ?hr ?hp (fun _ hk => hk) trivial (Below.refl _ _) (Nat.le_refl _) (by simp) ?_; (case hd => rfl); (case hg => rfl); (case hr => first | (go_simp; done) | (go_simp; rfl)); (case hp => exact (Reps.none _ _))
     intro v288 w7 ho8 hb hg_ hnew_
     clear hg_ hnew_
     (first | rw [← Ny287.out] at ho8 | (simp only [Int.reduceToNat] at ho8; rw [← Ny287.out] at ho8))
     have HO289 := Aside0.mk (Kd.R_lower ho8 (below_size (bl HB.out)))
     replace BK285 := Aside0.mk (bb BK285.out hb)
     replace BK286 := Aside0.mk (bb BK286.out hb)
     replace HB := Aside0.mk (below_step (bl HB.out) hb)
     clear hb ho8
     refine hK.out _ _ ⟨(blk_cell BK285.out 0).trans rfl, (blk_cell BK285.out 1).trans rfl, (blk_cell BK285.out 2).trans rfl⟩ (fun hHeld => ?_)
     clear hK K
     refine norm_ (a' := ?_) ?_ ?_
     rotate_left
     ·show Act.put _ (some 5) _ = _
      simp only [Act.put, List.setIfInBounds_toArray, List.set_cons_zero, List.set_cons_succ, i64_w, i32_w]
      rfl
     refine two_ (i := 5) (j := 6) (Ni := some 8) (Nj := some 9) #[true, true, true, true, true, true, false, true, true, false, false, false] #[true, true, true, true, true, false, true, true, true, false, false, false] rfl rfl rfl rfl (two_of HT_.out (by kernel_rfl)) (by decide) (by decide) (fun K hK => ?_) (fun K hK => ?_)
     ·skip
      refine Kd.R_append_rows_step (Kd.int .i64) (w0 := w) w.heap.size (by rfl) (.tmp 5) (.tmp 7) 38 3 (.int .i64 0) 8 rfl Try.underlying38 info3 rfl (by decide) (by omega) v288 y287 l0_1 _ _ _ (fun _ => True) (fun _ => False) rfl rfl ?aO ?aR (fun _ _ h => h) (fun _ h => h.elim) ?aF ?aB ?aS ?aL ?_
      (case aR => exact cb (Kd.C_below HR0_1.out HB.out))
      (case aB => exact (bl HB.out))
      (case aF => exact (fun _ _ => trivial))
      (case aO => exact (rk HO289.out))
      (case aS => exact (below_size (bl HB.out)))
      (case aL => have := LMc2.out; omega)
      intro v291 w9 ho hb hg hat
      rw [← Ny290.out] at ho
      replace BK285 := Aside0.mk (blk_grown (g := gb285) (o := .cells #[.int .i64 a0_0, .slice A0_1 l0_1.length c0_1, .slice A0_2 l0_2.length c0_2] 41 (0, 0)) (bk BK285.out) hg (Kd.R_ne HO289.out BK285.out (by decide)))
      replace BK286 := Aside0.mk (blk_grown (g := gb286) (o := .cells #[.int .i64 0, .slice none 0 0, .slice none 0 0] 41 (0, 0)) (bk BK286.out) hg (Kd.R_ne HO289.out BK286.out (by decide)))
      replace HB := Aside0.mk (hb)
      have HO292 := Aside0.mk (ho)
      clear HO289
      clear ho hb hg hat
      refine hK.out _ _ ⟨(blk_cell BK285.out 0).trans rfl, (blk_cell BK285.out 1).trans rfl, (blk_cell BK285.out 2).trans rfl⟩ (fun hHeld => ?_)
      clear hK K
      refine norm_ (a' := ?_) ?_ ?_
      rotate_left
      ·show Act.put _ (some 8) _ = _
       simp only [Act.put, List.setIfInBounds_toArray, List.set_cons_zero, List.set_cons_succ, i64_w, i32_w]
       rfl
      refine onA (i := 6) (N := some 9) HT_.out (fun K hK => ?_)
      refine Kd.R_lit_step k98 _ 98 ?hg (N := 9) ?hd (xs := ([] : List (S98))) (inner := []) (ok := fun _ => True) (okp := fun _ => True) ?hr ?hp (fun _ hk => hk) trivial (Below.refl _ _) (Nat.le_refl _) (by simp) ?_; (case hd => rfl); (case hg => rfl); (case hr => first | (go_simp; done) | (go_simp; rfl)); (case hp => exact (Reps.none _ _))
      intro v294 w10 ho11 hb hg_ hnew_
      clear hg_ hnew_
      (first | rw [← Ny293.out] at ho11 | (simp only [Int.reduceToNat] at ho11; rw [← Ny293.out] at ho11))
      replace HO292 := Aside0.mk (Kd.R_below (rk HO292.out) hb)
      have HO295 := Aside0.mk (Kd.R_lower ho11 (below_size (bl HB.out)))
      replace BK285 := Aside0.mk (bb BK285.out hb)
      replace BK286 := Aside0.mk (bb BK286.out hb)
      replace HB := Aside0.mk (below_step (bl HB.out) hb)
      clear hb ho11
      refine hK.out _ _ ⟨(blk_cell BK285.out 0).trans rfl, (blk_cell BK285.out 1).trans rfl, (blk_cell BK285.out 2).trans rfl⟩ (fun hHeld => ?_)
      clear hK K
      refine norm_ (a' := ?_) ?_ ?_
      rotate_left
      ·show Act.put _ (some 9) _ = _
       simp only [Act.put, List.setIfInBounds_toArray, List.set_cons_zero, List.set_cons_succ, i64_w, i32_w]
       rfl
      exact norm_ (by simp only [putAll, Act.put, List.setIfInBounds_toArray, List.set_cons_zero, List.set_cons_succ]) (hCont (v288, v291, v294) _ ⟨hHeld, (rk HO292.out), (rk HO295.out), (bk BK285.out), (bk BK286.out), (bl HB.out)⟩)
     ·skip
      refine Kd.R_lit_step k98 _ 98 ?hg (N := 9) ?hd (xs := ([] : List (S98))) (inner := []) (ok := fun _ => True) (okp := fun _ => True) ?hr ?hp (fun _ hk => hk) trivial (Below.refl _ _) (Nat.le_refl _) (by simp) ?_; (case hd => rfl); (case hg => rfl); (case hr => first | (go_simp; done) | (go_simp; rfl)); (case hp => exact (Reps.none _ _))
      intro v294 w9 ho10 hb hg_ hnew_
      clear hg_ hnew_
      (first | rw [← Ny293.out] at ho10 | (simp only [Int.reduceToNat] at ho10; rw [← Ny293.out] at ho10))
      replace HO289 := Aside0.mk (Kd.R_below (rk HO289.out) hb)
      have HO295 := Aside0.mk (Kd.R_lower ho10 (below_size (bl HB.out)))
      replace BK285 := Aside0.mk (bb BK285.out hb)
      replace BK286 := Aside0.mk (bb BK286.out hb)
      replace HB := Aside0.mk (below_step (bl HB.out) hb)
      clear hb ho10
      refine hK.out _ _ ⟨(blk_cell BK285.out 0).trans rfl, (blk_cell BK285.out 1).trans rfl, (blk_cell BK285.out 2).trans rfl⟩ (fun hHeld => ?_)
      clear hK K
      refine norm_ (a' := ?_) ?_ ?_
      rotate_left
      ·show Act.put _ (some 9) _ = _
       simp only [Act.put, List.setIfInBounds_toArray, List.set_cons_zero, List.set_cons_succ, i64_w, i32_w]
       rfl
      refine onA (i := 5) (N := some 8) HT_.out (fun K hK => ?_)
      refine Kd.R_append_rows_step (Kd.int .i64) (w0 := w) w.heap.size (by rfl) (.tmp 5) (.tmp 7) 38 3 (.int .i64 0) 8 rfl Try.underlying38 info3 rfl (by decide) (by omega) v288 y287 l0_1 _ _ _ (fun _ => True) (fun _ => False) rfl rfl ?aO ?aR (fun _ _ h => h) (fun _ h => h.elim) ?aF ?aB ?aS ?aL ?_
      (case aR => exact cb (Kd.C_below HR0_1.out HB.out))
      (case aB => exact (bl HB.out))
      (case aF => exact (fun _ _ => trivial))
      (case aO => exact (rk HO289.out))
      (case aS => exact (below_size (bl HB.out)))
      (case aL => have := LMc2.out; omega)
      intro v291 w11 ho hb hg hat
      rw [← Ny290.out] at ho
      replace BK285 := Aside0.mk (blk_grown (g := gb285) (o := .cells #[.int .i64 a0_0, .slice A0_1 l0_1.length c0_1, .slice A0_2 l0_2.length c0_2] 41 (0, 0)) (bk BK285.out) hg (Kd.R_ne HO289.out BK285.out (by decide)))
      replace BK286 := Aside0.mk (blk_grown (g := gb286) (o := .cells #[.int .i64 0, .slice none 0 0, .slice none 0 0] 41 (0, 0)) (bk BK286.out) hg (Kd.R_ne HO289.out BK286.out (by decide)))
      replace HO295 := Aside0.mk (Kd.R_over' (rk HO295.out) (Kd.R_typed (rk HO289.out)) (by decide) hg)
      replace HB := Aside0.mk (hb)
      have HO292 := Aside0.mk (ho)
      clear HO289
      clear ho hb hg hat
      refine hK.out _ _ ⟨(blk_cell BK285.out 0).trans rfl, (blk_cell BK285.out 1).trans rfl, (blk_cell BK285.out 2).trans rfl⟩ (fun hHeld => ?_)
      clear hK K
      refine norm_ (a' := ?_) ?_ ?_
      rotate_left
      ·show Act.put _ (some 8) _ = _
       simp only [Act.put, List.setIfInBounds_toArray, List.set_cons_zero, List.set_cons_succ, i64_w, i32_w]
       rfl
      exact norm_ (by simp only [putAll, Act.put, List.setIfInBounds_toArray, List.set_cons_zero, List.set_cons_succ]) (hCont (v288, v291, v294) _ ⟨hHeld, (rk HO292.out), (rk HO295.out), (bk BK285.out), (bk BK286.out), (bl HB.out)⟩)
    ·skip
     refine Kd.R_lit_step k98 _ 98 ?hg (N := 9) ?hd (xs := ([] : List (S98))) (inner := []) (ok := fun _ => True) (okp := fun _ => True) ?hr ?hp (fun _ hk => hk) trivial (Below.refl _ _) (Nat.le_refl _) (by simp) ?_; (case hd => rfl); (case hg => rfl); (case hr => first | (go_simp; done) | (go_simp; rfl)); (case hp => exact (Reps.none _ _))
     intro v294 w7 ho8 hb hg_ hnew_
     clear hg_ hnew_
     (first | rw [← Ny293.out] at ho8 | (simp only [Int.reduceToNat] at ho8; rw [← Ny293.out] at ho8))
     have HO295 := Aside0.mk (Kd.R_lower ho8 (below_size (bl HB.out)))
     replace BK285 := Aside0.mk (bb BK285.out hb)
     replace BK286 := Aside0.mk (bb BK286.out hb)
     replace HB := Aside0.mk (below_step (bl HB.out) hb)
     clear hb ho8
     refine hK.out _ _ ⟨(blk_cell BK285.out 0).trans rfl, (blk_cell BK285.out 1).trans rfl, (blk_cell BK285.out 2).trans rfl⟩ (fun hHeld => ?_)
     clear hK K
     refine norm_ (a' := ?_) ?_ ?_
     rotate_left
     ·show Act.put _ (some 9) _ = _
      simp only [Act.put, List.setIfInBounds_toArray, List.set_cons_zero, List.set_cons_succ, i64_w, i32_w]
      rfl
     refine onA (i := 2) (N := some 5) HT_.out (fun K hK => ?_)
     refine Kd.R_lit_step (Kd.int .i64) _ 3 ?hg (N := 5) ?hd (xs := ([] : List Int)) (inner := []) (ok := fun _ => True) (okp := fun _ => True) ?hr ?hp (fun _ hk => hk) trivial (Below.refl _ _) (Nat.le_refl _) (by simp) ?_; (case hd => rfl); (case hg => rfl); (case hr => first | (go_simp; done) | (go_simp; rfl)); (case hp => exact (Reps.none _ _))
     intro v288 w9 ho10 hb hg_ hnew_
     clear hg_ hnew_
     (first | rw [← Ny287.out] at ho10 | (simp only [Int.reduceToNat] at ho10; rw [← Ny287.out] at ho10))
     replace HO295 := Aside0.mk (Kd.R_below (rk HO295.out) hb)
     have HO289 := Aside0.mk (Kd.R_lower ho10 (below_size (bl HB.out)))
     replace BK285 := Aside0.mk (bb BK285.out hb)
     replace BK286 := Aside0.mk (bb BK286.out hb)
     replace HB := Aside0.mk (below_step (bl HB.out) hb)
     clear hb ho10
     refine hK.out _ _ ⟨(blk_cell BK285.out 0).trans rfl, (blk_cell BK285.out 1).trans rfl, (blk_cell BK285.out 2).trans rfl⟩ (fun hHeld => ?_)
     clear hK K
     refine norm_ (a' := ?_) ?_ ?_
     rotate_left
     ·show Act.put _ (some 5) _ = _
      simp only [Act.put, List.setIfInBounds_toArray, List.set_cons_zero, List.set_cons_succ, i64_w, i32_w]
      rfl
     refine onA (i := 5) (N := some 8) HT_.out (fun K hK => ?_)
     refine Kd.R_append_rows_step (Kd.int .i64) (w0 := w) w.heap.size (by rfl) (.tmp 5) (.tmp 7) 38 3 (.int .i64 0) 8 rfl Try.underlying38 info3 rfl (by decide) (by omega) v288 y287 l0_1 _ _ _ (fun _ => True) (fun _ => False) rfl rfl ?aO ?aR (fun _ _ h => h) (fun _ h => h.elim) ?aF ?aB ?aS ?aL ?_
     (case aR => exact cb (Kd.C_below HR0_1.out HB.out))
     (case aB => exact (bl HB.out))
     (case aF => exact (fun _ _ => trivial))
     (case aO => exact (rk HO289.out))
     (case aS => exact (below_size (bl HB.out)))
     (case aL => have := LMc2.out; omega)
     intro v291 w11 ho hb hg hat
     rw [← Ny290.out] at ho
     replace BK285 := Aside0.mk (blk_grown (g := gb285) (o := .cells #[.int .i64 a0_0, .slice A0_1 l0_1.length c0_1, .slice A0_2 l0_2.length c0_2] 41 (0, 0)) (bk BK285.out) hg (Kd.R_ne HO289.out BK285.out (by decide)))
     replace BK286 := Aside0.mk (blk_grown (g := gb286) (o := .cells #[.int .i64 0, .slice none 0 0, .slice none 0 0] 41 (0, 0)) (bk BK286.out) hg (Kd.R_ne HO289.out BK286.out (by decide)))
     replace HO295 := Aside0.mk (Kd.R_over' (rk HO295.out) (Kd.R_typed (rk HO289.out)) (by decide) hg)
     replace HB := Aside0.mk (hb)
     have HO292 := Aside0.mk (ho)
     clear HO289
     clear ho hb hg hat
     refine hK.out _ _ ⟨(blk_cell BK285.out 0).trans rfl, (blk_cell BK285.out 1).trans rfl, (blk_cell BK285.out 2).trans rfl⟩ (fun hHeld => ?_)
     clear hK K
     refine norm_ (a' := ?_) ?_ ?_
     rotate_left
     ·show Act.put _ (some 8) _ = _
      simp only [Act.put, List.setIfInBounds_toArray, List.set_cons_zero, List.set_cons_succ, i64_w, i32_w]
      rfl
     exact norm_ (by simp only [putAll, Act.put, List.setIfInBounds_toArray, List.set_cons_zero, List.set_cons_succ]) (hCont (v288, v291, v294) _ ⟨hHeld, (rk HO292.out), (rk HO295.out), (bk BK285.out), (bk BK286.out), (bl HB.out)⟩)
   rintro ⟨v288, v291, v294⟩ w12 ⟨hS_, h0_, h1_, h2_, h3_, h4_⟩
   have n0_ : Aside0 (Kd.R (Kd.int .i64) 3 w12 w.heap.size (fun _ => True) v291 y290) := ⟨h0_⟩
   have n1_ : Aside0 (Kd.R k98 98 w12 w.heap.size (fun _ => True) v294 y293) := ⟨h1_⟩
   have n2_ : Aside0 (w12.heap[gb285]? = some (.cells #[.int .i64 a0_0, .slice A0_1 l0_1.length c0_1, .slice A0_2 l0_2.length c0_2] 41 (0, 0))) := ⟨h2_⟩
   have n3_ : Aside0 (w12.heap[gb286]? = some (.cells #[.int .i64 0, .slice none 0 0, .slice none 0 0] 41 (0, 0))) := ⟨h3_⟩
   have n4_ : Aside0 (Below w.heap.size w w12) := ⟨h4_⟩
   clear BK285
   clear BK286
   clear HB
   clear h0_ h1_ h2_ h3_ h4_
   have HO292 := n0_
   have HO295 := n1_
   have BK285 := n2_
   have BK286 := n3_
   have HB := n4_
   clear n0_ n1_ n2_ n3_ n4_
   have hHeld : w12.cell? ⟨gb285, 0, none⟩ = some (.int .i64 a0_0) ∧ w12.cell? ⟨gb285, 1, none⟩ = some (.slice A0_1 l0_1.length c0_1) ∧ w12.cell? ⟨gb285, 2, none⟩ = some (.slice A0_2 l0_2.length c0_2) := hS_
   refine norm_ (a' := ?_) ?_ ?_
   rotate_left
   ·simp only [putAll, Act.put, List.setIfInBounds_toArray, List.set_cons_zero, List.set_cons_succ]
    rfl
   refine onA (i := 9) (N := some 12) HT_.out (fun K hK => ?_)
   refine Kd.R_append_rows_step k98 (w0 := w) w.heap.size (by rfl) (.tmp 9) (.tmp 11) 39 98 (.agg #[(.int .i64 0), (.int .i64 0), (.int .i64 0), (.bool false)]) 32 rfl Try.underlying39 info98 rfl (by decide) (by omega) v294 y293 l0_2 _ _ _ (fun _ => True) (fun _ => False) rfl rfl ?aO ?aR (fun _ _ h => h) (fun _ h => h.elim) ?aF ?aB ?aS ?aL ?_
   (case aR => exact cb (Kd.C_below HR0_2.out HB.out))
   (case aB => exact (bl HB.out))
   (case aF => exact (fun _ _ => trivial))
   (case aO => exact (rk HO295.out))
   (case aS => exact (below_size (bl HB.out)))
   (case aL => have := LMc3.out; omega)
   intro v297 w13 ho hb hg hat
   rw [← Ny296.out] at ho
   replace BK285 := Aside0.mk (blk_grown (g := gb285) (o := .cells #[.int .i64 a0_0, .slice A0_1 l0_1.length c0_1, .slice A0_2 l0_2.length c0_2] 41 (0, 0)) (bk BK285.out) hg (Kd.R_ne HO295.out BK285.out (by decide)))
   replace BK286 := Aside0.mk (blk_grown (g := gb286) (o := .cells #[.int .i64 0, .slice none 0 0, .slice none 0 0] 41 (0, 0)) (bk BK286.out) hg (Kd.R_ne HO295.out BK286.out (by decide)))
   replace HO292 := Aside0.mk (Kd.R_over' (rk HO292.out) (Kd.R_typed (rk HO295.out)) (by decide) hg)
   replace HB := Aside0.mk (hb)
   have HO298 := Aside0.mk (ho)
   clear HO295
   clear ho hb hg hat
   obtain ⟨Ao14, co14, eo14⟩ := Kd.R_slice HO298.out
   (first | subst eo14 | (injection eo14 with f1_ f2_ f3_; have f4_ := f1_.symm; have f5_ := f3_.symm; clear f1_ f2_ f3_; subst f4_; subst f5_))
   obtain ⟨Ao15, co15, eo15⟩ := Kd.R_slice HO292.out
   (first | subst eo15 | (injection eo15 with f1_ f2_ f3_; have f4_ := f1_.symm; have f5_ := f3_.symm; clear f1_ f2_ f3_; subst f4_; subst f5_))
   refine hK.out _ _ ⟨(blk_cell BK285.out 0).trans rfl, (blk_cell BK285.out 1).trans rfl, (blk_cell BK285.out 2).trans rfl⟩ (fun hHeld => ?_)
   clear hK K
   refine norm_ (a' := ?_) ?_ ?_
   rotate_left
   ·show Act.put _ (some 12) _ = _
    simp only [Act.put, List.setIfInBounds_toArray, List.set_cons_zero, List.set_cons_succ, i64_w, i32_w]
    rfl
   refine puA (i := 10) (N := some 13) HT_.out ?_
   refine onA (i := 11) (N := none) HT_.out (fun K hK => ?_)
   have hs16 : w13.cell? ⟨gb286, 0, none⟩ = some (.int .i64 0) := (blk_cell BK286.out 0).trans rfl
   have hfs16 := blk_frozen BK286.out 0
   have hns16_0 := NB285_286.out
   have hms16_0 := NB286_285.out
   have hs17 : w13.cell? ⟨gb286, 1, none⟩ = some (.slice none 0 0) := (blk_cell BK286.out 1).trans rfl
   have hfs17 := blk_frozen BK286.out 1
   have hns17_0 := NB285_286.out
   have hms17_0 := NB286_285.out
   have hs18 : w13.cell? ⟨gb286, 2, none⟩ = some (.slice none 0 0) := (blk_cell BK286.out 2).trans rfl
   have hfs18 := blk_frozen BK286.out 2
   have hns18_0 := NB285_286.out
   have hms18_0 := NB286_285.out
   refine skip_ (w1 := ?_) (by rfl) rfl ?_ ?_
   rotate_left
   ·go_simp
    rfl
   refine hK.out _ _ ⟨((cell_far (p := ⟨gb286, _, none⟩) NB285_286.out _).trans (((cell_far (p := ⟨gb286, _, none⟩) NB285_286.out _).trans (((cell_far (p := ⟨gb286, _, none⟩) NB285_286.out _).trans (hHeld.1)))))), ((cell_far (p := ⟨gb286, _, none⟩) NB285_286.out _).trans (((cell_far (p := ⟨gb286, _, none⟩) NB285_286.out _).trans (((cell_far (p := ⟨gb286, _, none⟩) NB285_286.out _).trans (hHeld.2.1)))))), ((cell_far (p := ⟨gb286, _, none⟩) NB285_286.out _).trans (((cell_far (p := ⟨gb286, _, none⟩) NB285_286.out _).trans (((cell_far (p := ⟨gb286, _, none⟩) NB285_286.out _).trans (hHeld.2.2))))))⟩ (fun hHeld => ?_)
   clear hK K
   refine done_ (done_of HT_.out (by kernel_rfl)) ?_
   try go_wp2
   refine bodyPost_ret (results_cell_row rfl _ _ gb286 41 #[.int .i64 a0_0, .slice Ao15 y290.length co15, .slice Ao14 y296.length co14] (0, 0) _ rfl (by refine bk ?_; refine blk_put (cs := #[.int .i64 a0_0, .slice Ao15 y290.length co15, .slice none 0 0]) ?_ 2 _ rfl; refine bk ?_; refine blk_put (cs := #[.int .i64 a0_0, .slice none 0 0, .slice none 0 0]) ?_ 1 _ rfl; refine bk ?_; refine blk_put (cs := #[.int .i64 0, .slice none 0 0, .slice none 0 0]) ?_ 0 _ rfl; refine bk ?_; exact BK286.out) Try.underlying41 rfl (by kernel_rfl)) rfl ?_
   exact ⟨_, _, by first | rfl | (simp [errW_none, errW_some] <;> rfl) | (simp [*, errW_none, errW_some] <;> rfl), by refine rk ?_; exact Kd.R_mono (Kd.R_far (p := ⟨gb286, 2, none⟩) (Kd.R_far (p := ⟨gb286, 1, none⟩) (Kd.R_far (p := ⟨gb286, 0, none⟩) (Kd.R_types HO292.out BK286.out (by decide)) (fun _ hk => hk.2) (.int .i64 a0_0)) (fun _ hk => hk.2) (.slice Ao15 y290.length co15)) (fun _ hk => hk.2) (.slice Ao14 y296.length co14)) (fun _ hk => trivial), by refine rk ?_; exact Kd.R_mono (Kd.R_far (p := ⟨gb286, 2, none⟩) (Kd.R_far (p := ⟨gb286, 1, none⟩) (Kd.R_far (p := ⟨gb286, 0, none⟩) (Kd.R_types HO298.out BK286.out (by decide)) (fun _ hk => hk.2) (.int .i64 a0_0)) (fun _ hk => hk.2) (.slice Ao15 y290.length co15)) (fun _ hk => hk.2) (.slice Ao14 y296.length co14)) (fun _ hk => trivial), bl HB.out⟩
  ·rw [if_neg c3] at H
   exact absurd H (by simp)
 ·rw [if_neg c2] at H
  exact absurd H (by simp)
end Go.Proofs.Ytbpjidekjogfeaa.A
