/- What the proof of the law FnExactDecodeHex uses: lemmas, the Lean functions of the Go functions that it reaches, their contracts, and the pure statement's proof. -/
import Derived.Test.YtfoldjbcnlhipaaProg
import Derived.Below
import Derived.Deep.Draws
import Derived.Deep.AppendLies
import Derived.Maps.AppendAt
import Derived.OwnWalk
import Derived.Laws.BytesArg
import Derived.Laws.MakeOwn
import Derived.Laws.OwnMore
import Derived.Deep.OwnRows
import Derived.Tactics
import Derived.Lib.ConvBytes
import Derived.Laws.Slices
import Derived.WalkKit
import Derived.KernelRfl
import Derived.RowKit3
import Derived.Deep.LoopGhost
import Derived.Deep.QuietTactic
import Derived.BigQuiet
import Derived.WideLaws
import Derived.Deep.DeepCutAuto
import Derived.Deep.CutBlock
import Derived.Deep.RegionHeld3
import Derived.Laws.Rows
import Derived.Lib.AppendStr
import Derived.ArgAppend
import Derived.Laws.IdiomCopy
import Derived.OrdersHeld
import Derived.Laws.BitsLemmas
import Derived.RowKit
import Derived.Lib.SliceRun
import Derived.Test.YtfoldjbcnlhipaaZFnExactDecodeHexx1
import Derived.Shelf.Strings.BuilderK
import Derived.Test.YtfoldjbcnlhipaaZFnExactDecodeHexx0
import Derived.Test.YtfoldjbcnlhipaaZFnExactDecodeHexx2
import Derived.Test.YtfoldjbcnlhipaaZFnExactDecodeHexx3
import Derived.Test.YtfoldjbcnlhipaaZFnExactDecodeHexx4
import Derived.Test.YtfoldjbcnlhipaaZFnExactDecodeHexx5
import Derived.Test.YtfoldjbcnlhipaaZFnExactDecodeHexx6
import Derived.Test.YtfoldjbcnlhipaaZFnExactDecodeHexx7
import Derived.Laws.StructEq
import Derived.Test.YtfoldjbcnlhipaaZFnExactDecodeHexx8
import Derived.Test.YtfoldjbcnlhipaaZFnExactDecodeHexx9
import Derived.Test.YtfoldjbcnlhipaaZFnExactDecodeHexx10
import Derived.Test.YtfoldjbcnlhipaaZFnExactDecodeHexx11
import Derived.ProofKit
import Derived.OpenShut
import Derived.ShutString
import Derived.ChangeOld
import Derived.SizedLaws
import Derived.ChangeArms
namespace Go.Proofs.Ytfoldjbcnlhipaa.A
open Go.RowKit Go.Proofs.YtfoldjbcnlhipaaW.PrintWords Go.Proofs.YtfoldjbcnlhipaaW.PrintLast Go.Proofs.YtfoldjbcnlhipaaW.PrintMore
attribute [local go_sem] max2_int min2_int max_two min_two max_three min_three max_four min_four   
set_option linter.unusedVariables false
set_option linter.unusedSimpArgs false
def errW : Option Int → Value
  | none => .nilIface
  | some c => .iface 0 (.int .i64 c)
theorem errW_none : errW none = .nilIface := rfl
theorem errW_some (c : Int) : errW (some c) = .iface 0 (.int .i64 c) := rfl
theorem info5 : (Try.prog.info? 5).map (fun i => (i.zero, i.size, i.bytes)) = some (some (.int .u8 0), 1, 1) := by kernel_rfl
end Go.Proofs.Ytfoldjbcnlhipaa.A

namespace Go.Proofs.Ytfoldjbcnlhipaa.A
open Go.RowKit Go.Proofs.YtfoldjbcnlhipaaW.PrintWords Go.Proofs.YtfoldjbcnlhipaaW.PrintLast Go.Proofs.YtfoldjbcnlhipaaW.PrintMore
attribute [local go_sem] max2_int min2_int max_two min_two max_three min_three max_four min_four   
set_option linter.unusedVariables false
set_option linter.unusedSimpArgs false
theorem bld_used (b : Nat) (w : World) (h0 : w.cell? ⟨b, 0, none⟩ = some (.pointer (some ⟨b, 0, none⟩))) :
    Calls Try.prog 14 #[.pointer (some ⟨b, 0, none⟩)] w fun e w' => e = .returned (.tuple #[]) ∧ w' = w := by
  obtain ⟨j, hj, _⟩ := Option.map_eq_some_iff.1 (show (Try.prog.info? 29).map (·.size) = some 2 by kernel_rfl)
  have tB := Try.underlying29
  have tp := Try.underlying27
  have uB := run_underlying tB
  have up := run_underlying tp
  go_enter Try.func14, Try.ntmps14
  go_wp2
  rw [Lib.run_neq_ptr_same w _ tp hj]
  go_wp2
  go_end0
  exact ⟨rfl, rfl⟩
theorem bld_new (b : Nat) (w : World) (h0 : w.cell? ⟨b, 0, none⟩ = some (.pointer none)) (hsh : w.shape? b = some (29, 2)) (hfz : w.frozen? ⟨b, 0, none⟩ = false) :
    Calls Try.prog 14 #[.pointer (some ⟨b, 0, none⟩)] w fun e w' => e = .returned (.tuple #[]) ∧ w' = w.setCell ⟨b, 0, none⟩ (.pointer (some ⟨b, 0, none⟩)) := by
  obtain ⟨j, hj, hjs⟩ := Option.map_eq_some_iff.1 (show (Try.prog.info? 29).map (·.size) = some 2 by kernel_rfl)
  have tB := Try.underlying29
  have tp := Try.underlying27
  have tu := Try.underlying37
  have uB := run_underlying tB
  have up := run_underlying tp
  have uu := run_underlying tu
  go_enter Try.func14, Try.ntmps14
  go_wp2
  rw [Lib.run_to_unsafe w ⟨b, 0, none⟩ tp tu hj (by rw [hjs]; decide) hsh (Nat.zero_lt_succ 1)]
  simp only [Result.andThen]
  rw [Oper.upon_value]
  go_wp2
  rw [run_callFunc_extern Try.func15 (by kernel_rfl) (by kernel_rfl) (by kernel_rfl) (e := Extern.AbiNoEscape.same) (by kernel_rfl)]
  rw [Lib.run_noEscape]
  simp only [Result.andThen]
  rw [Oper.upon_value]
  go_wp2
  rw [Lib.run_from_unsafe w ⟨b, 0, none⟩ tu tp hj hsh (by kernel_rfl)]
  simp only [Result.andThen]
  rw [Oper.upon_value]
  go_wp2
  go_end0
  exact ⟨rfl, rfl⟩
theorem bld_check (B b : Nat) (bs : List Value) (w : World) (h : Lib.IsBuilderF 29 5 B b bs w) :
    Calls Try.prog 14 #[.pointer (some ⟨b, 0, none⟩)] w fun e w' => e = .returned (.tuple #[]) ∧ Lib.BuilderAtF 29 5 B b (.pointer (some ⟨b, 0, none⟩)) bs w' ∧ Below B w w' := by
  rcases h with h | h
  · refine (bld_new b w h.cell0 h.shape h.frozen0).mono ?_
    rintro e w' ⟨rfl, rfl⟩
    exact ⟨rfl, h.used _, (Below.refl B w).setCell (p := ⟨b, 0, none⟩) h.1 _⟩
  · refine (bld_used b w h.cell0).mono ?_
    rintro e w' ⟨rfl, rfl⟩
    exact ⟨rfl, h, Below.refl B _⟩
set_option maxHeartbeats 2000000 in
set_option maxRecDepth 100000 in

theorem bld_put (B b : Nat) (bs : List Value) (c : Int) (w : World) (h : Lib.IsBuilderF 29 5 B b bs w) (hlen : bs.length + 1 ≤ 140737488355328) (hBw : B ≤ w.heap.size) :
    Calls Try.prog 10 #[.pointer (some ⟨b, 0, none⟩), .int .u8 c] w fun e w' => e = .returned .nilIface ∧ Lib.IsBuilderF 29 5 B b (bs ++ [.int .u8 c]) w' ∧ Below B w w' := by
  obtain ⟨i0, hi, hzz⟩ := Option.map_eq_some_iff.1 (show (Try.prog.info? 5).map (fun i => (i.zero, i.size, i.bytes)) = some (some (.int .u8 0), 1, 1) by kernel_rfl)
  simp only [Prod.mk.injEq] at hzz
  obtain ⟨hz0, hz1, hz2⟩ := hzz
  have tB := Try.underlying29
  have tp := Try.underlying27
  have ts := Try.underlying25
  have uB := run_underlying tB
  have up := run_underlying tp
  have us := run_underlying ts
  go_enter Try.func10, Try.ntmps10
  go_wp2_with (go_at_call 14; refine (bld_check B b bs _ h).mono ?_)
  rintro e w1 ⟨rfl, h1, hb1⟩
  obtain ⟨hB, v, hbk, hown, hne⟩ := h1
  have c0 : w1.cell? ⟨b, 0, none⟩ = some (.pointer (some ⟨b, 0, none⟩)) := by rw [Lib.cell_of_heap hbk]; rfl
  have c1 : w1.cell? ⟨b, 1, none⟩ = some v := by rw [Lib.cell_of_heap hbk]; rfl
  have hlt : b < w1.heap.size := World.block_lt_of_cell? w1 _ c0
  have hsz := hb1.size
  go_wp2_with (at_builtin; refine wpList_append_ownF _ rfl _ _ 25 rfl B 5 i0 (.int .u8 0) 1 1 ts hi hz0 hz1 hz2 rfl (by decide) _ _ _ rfl (hown.alloc _) ⟨w1.heap.size, 0, none⟩ 1 1 [.int .u8 c] rfl rfl ?c1 ?c2 ?c3 ?c4 ?c5 ?_)
  case c1 =>
    intro j u hj
    match j, hj with
    | 0, hj => simp at hj; subst hj; simp [Addr.add]
  case c2 => intro u hu; simp at hu; subst hu; rfl
  case c3 => unfold maxLen; omega
  case c4 => omega
  case c5 => simp; omega
  intro v' w2 hown' hgrow _
  have hb2 : w2.heap[b]? = some (.cells #[.pointer (some ⟨b, 0, none⟩), v] 29 (0, 0)) := by
    rw [hgrow.block b (by simp; omega) (fun e => hne e.symm), Lib.alloc_old w1 _ b hlt]
    exact hbk
  have d0 : w2.cell? ⟨b, 0, none⟩ = some (.pointer (some ⟨b, 0, none⟩)) := by rw [Lib.cell_of_heap hb2]; rfl
  have d1 : w2.cell? ⟨b, 1, none⟩ = some v := by rw [Lib.cell_of_heap hb2]; rfl
  have f1 : w2.frozen? ⟨b, 1, none⟩ = false := Lib.frozen_of_heap hb2 1
  obtain ⟨g, cap, rfl⟩ : ∃ g cap, v' = .slice (some ⟨g, 0, none⟩) (bs.length + 1) cap := by
    rcases hown'.2 with ⟨_, h0⟩ | ⟨g, cap, cur, fz, hv, _⟩
    · omega
    · exact ⟨g, cap, hv⟩
  go_wp2
  go_ret
  refine ⟨rfl, Or.inr ?_, ?_⟩
  · exact Lib.BuilderAtF.put (T := 29) (e := 5) hB hb2 (bs' := bs ++ [.int .u8 c]) (by simpa using hown') (by decide)
  · exact ((hb1.alloc (by omega) _).grown hgrow (by simp; omega) (fun k hk => (hown.lt k hk).1)).setCell (p := ⟨b, 1, none⟩) hB _
def bldRen : Go.Shelf.Ren := ⟨fun | 169 => 11 | n => n, fun | 70 => 27 | 9 => 9 | 0 => 0 | 72 => 29 | 37 => 25 | 127 => 36 | 3 => 3 | 5 => 5 | n => n, fun | n => n⟩
theorem bldLays : Go.Proofs.Lays.n169 Try.prog bldRen := {
  mixed := by kernel_rfl
  f169 := Try.func11.trans (congrArg some (by kernel_rfl))
  t0 := Try.underlying0
  a0 := Try.isAgg0
  z0 := Try.sizeOf0
  v0 := Try.zeroValue0
  t3 := Try.underlying3
  a3 := Try.isAgg3
  z3 := Try.sizeOf3
  v3 := Try.zeroValue3
  t9 := Try.underlying9
  a9 := Try.isAgg9
  z9 := Try.sizeOf9
  v9 := Try.zeroValue9
  t37 := Try.underlying25
  a37 := Try.isAgg25
  z37 := Try.sizeOf25
  v37 := Try.zeroValue25
  t70 := Try.underlying27
  a70 := Try.isAgg27
  z70 := Try.sizeOf27
  v70 := Try.zeroValue27
  t72 := Try.underlying29
  a72 := Try.isAgg29
  z72 := Try.sizeOf29
  v72 := Try.zeroValue29
  t127 := Try.underlying36
  a127 := Try.isAgg36
  z127 := Try.sizeOf36
  v127 := Try.zeroValue36 }
theorem bldExtra : Go.Proofs.Builder.Extra Try.prog bldRen := {
  sizeBuilder := by kernel_rfl
  liesBuilder := by kernel_rfl
  t5 := Try.underlying5
  a5 := Try.isAgg5
  z5 := Try.sizeOf5
  v5 := Try.zeroValue5
  infoByte := by kernel_rfl
  cellsByte := by kernel_rfl
  sizeByte := by kernel_rfl
  neB5 := by decide }
theorem bld_str (B b : Nat) (l : List UInt8) (w : World) (h : Lib.IsBuilderF 29 5 B b (Lib.byteCells l) w) (hBw : B ≤ w.heap.size) :
    Calls Try.prog 11 #[.pointer (some ⟨b, 0, none⟩)] w fun e w' => e = .returned (.string ⟨l.toArray⟩) ∧ Below B w w' := by
  refine (Any.Builder_String_any_k bldLays bldExtra B b l w h hBw).mono ?_
  rintro e w' ⟨h1, _, h2, _⟩
  exact ⟨h1, h2⟩
theorem at_byte (s : ByteArray) (i : Int) (h0 : 0 ≤ i) (h1 : i < s.size) : ∃ b : UInt8, s.data.toList[i.toNat]? = some b ∧ bt s i = b.toNat := by
  have hlt : i.toNat < s.size := by omega
  have hl : i.toNat < s.data.toList.length := by rw [data_length]; exact hlt
  refine ⟨s.data.toList[i.toNat], List.getElem?_eq_getElem hl, ?_⟩
  rw [← bt_at s i hlt]
  rfl
def spec_l01Value.j0 : Nat → Int → Bool → Option (Int)
  | 0, _, _ => none
  | k + 1, x0, x8 => if x8 = true then (some (wrap64 ((wrap64 (x0)) - 48))) else (if x0 ≥ 97 then (if x0 ≤ 102 then (some (wrap64 ((wrap64 ((wrap64 (x0)) - 97)) + 10))) else (some (-1))) else (some (-1)))
def spec_l01Value.f (k : Nat) (a0 : Int) : Option (Int) := if a0 ≥ 48 then (spec_l01Value.j0 k a0 (decide (a0 ≤ 57))) else (spec_l01Value.j0 k a0 false)
set_option maxHeartbeats 8000000 in
set_option maxRecDepth 100000 in
theorem spec_l01Value.calls (k : Nat) (a0 : Int) (r : Int) (w : World) (h : spec_l01Value.f k a0 = some r) :
    Calls Try.prog 12 #[.int .u8 a0] w fun e w' => e = .returned (.int .i64 r) ∧ Drawn0 w w' := by
  have H : (if a0 ≥ 48 then (spec_l01Value.j0 k a0 (decide (a0 ≤ 57))) else (spec_l01Value.j0 k a0 false)) = some r := h
  clear h
  have HC2 := Aside0.mk H
  clear H
  go_enter Try.func12, Try.ntmps12
  go_upto_region 1 with (fail)
  go_cut [8] (fun v8 wc => ∃ (kq : Nat) (x8_1 : Bool), v8 = .bool x8_1 ∧ Aside0 (spec_l01Value.j0 kq a0 x8_1 = some r) ∧ Aside0 (kq ≤ k) ∧ Drawn0 w wc)
  case first =>
    have H := HC2.out
    clear HC2
    by_cases c3 : a0 ≥ 48
    · rw [if_pos c3] at H
      have c3b0 : decide (48 ≤ a0) = true := decide_eq_true c3
      clear c3
      (first | rw [c3b0] | (simp only [i64_w, i32_w]; rw [c3b0]) | skip)
      have H' := Aside0.mk H
      clear H
      go_wp2
      go_meet
      case rel => exact ⟨_, (decide (a0 ≤ 57)), (by first | rfl | (simp; done) | (simp [*]; done)), H', ⟨by first | omega | exact Nat.le_refl _⟩, by repeat (first | exact Drawn0.refl _ | apply Drawn0.step)⟩
    · rw [if_neg c3] at H
      have c3b0 : decide (48 ≤ a0) = false := decide_eq_false c3
      clear c3
      (first | rw [c3b0] | (simp only [i64_w, i32_w]; rw [c3b0]) | skip)
      have H' := Aside0.mk H
      clear H
      go_wp2
      go_meet
      case rel => exact ⟨_, (false), (by first | rfl | (simp; done) | (simp [*]; done)), H', ⟨by first | omega | exact Nat.le_refl _⟩, by repeat (first | exact Drawn0.refl _ | apply Drawn0.step)⟩
  case rest =>
    clear HC2
    try clear c1
    try clear p2
    try clear c3
    try clear c3b0
    obtain ⟨kq, x8_1, rfl, HA, HJ1, ⟨mc1, rfl⟩⟩ := hcut
    cases kq with
    | zero => exact absurd HA.out (by simp [spec_l01Value.j0])
    | succ kj1 =>
      have H := HA.out
      clear HA
      simp only [spec_l01Value.j0] at H
      by_cases c4 : x8_1 = true
      · subst c4
        have H1 : (some (wrap64 ((wrap64 (a0)) - 48))) = some r := by rw [if_pos rfl] at H; exact H
        clear H
        have H := H1
        clear H1
        obtain rfl := Option.some.inj H
        go_wp2
        go_ret
        exact ⟨by first | rfl | (simp; done) | (simp [*]; done), by repeat (first | exact Drawn0.refl _ | apply Drawn0.step)⟩
      · replace c4 := Bool.eq_false_iff.mpr c4
        subst c4
        have H1 : (if a0 ≥ 97 then (if a0 ≤ 102 then (some (wrap64 ((wrap64 ((wrap64 (a0)) - 97)) + 10))) else (some (-1))) else (some (-1))) = some r := by rw [if_neg (show ¬ (false = true) by decide)] at H; exact H
        clear H
        have H := H1
        clear H1
        by_cases c5 : a0 ≥ 97
        · rw [if_pos c5] at H
          have c5b0 : decide (97 ≤ a0) = true := decide_eq_true c5
          clear c5
          by_cases c6 : a0 ≤ 102
          · rw [if_pos c6] at H
            have c6b0 : decide (a0 ≤ 102) = true := decide_eq_true c6
            clear c6
            obtain rfl := Option.some.inj H
            go_wp2
            go_ret
            exact ⟨by first | rfl | (simp; done) | (simp [*]; done), by repeat (first | exact Drawn0.refl _ | apply Drawn0.step)⟩
          · rw [if_neg c6] at H
            have c6b0 : decide (a0 ≤ 102) = false := decide_eq_false c6
            clear c6
            obtain rfl := Option.some.inj H
            go_wp2
            go_ret
            exact ⟨by first | rfl | (simp; done) | (simp [*]; done), by repeat (first | exact Drawn0.refl _ | apply Drawn0.step)⟩
        · rw [if_neg c5] at H
          have c5b0 : decide (97 ≤ a0) = false := decide_eq_false c5
          clear c5
          obtain rfl := Option.some.inj H
          go_wp2
          go_ret
          exact ⟨by first | rfl | (simp; done) | (simp [*]; done), by repeat (first | exact Drawn0.refl _ | apply Drawn0.step)⟩
end Go.Proofs.Ytfoldjbcnlhipaa.A

namespace Go.Proofs.Ytfoldjbcnlhipaa.A
open Go.RowKit Go.Proofs.YtfoldjbcnlhipaaW.PrintWords Go.Proofs.YtfoldjbcnlhipaaW.PrintLast Go.Proofs.YtfoldjbcnlhipaaW.PrintMore
attribute [local go_sem] max2_int min2_int max_two min_two max_three min_three max_four min_four   
set_option linter.unusedVariables false
set_option linter.unusedSimpArgs false
mutual
def spec_DecodeHex.j0 : Nat → ByteArray → Bool → Option (ByteArray × Bool)
  | 0, _, _ => none
  | k + 1, x0, x16 => if x16 = true then (some ((⟨#[]⟩ : ByteArray), false)) else (spec_DecodeHex.l0 k x0 (([] : List Int)) 0)
def spec_DecodeHex.l0 : Nat → ByteArray → List Int → Int → Option (ByteArray × Bool)
  | 0, _, _, _ => none
  | k + 1, x0, x4, x5 => if x5 < (x0.size : Int) then (if 0 ≤ x5 then ((spec_l01Value.f k (bt x0 x5)).bind fun t119 => (if 0 ≤ (wrap64 (x5 + 1)) then (if (wrap64 (x5 + 1)) < (x0.size : Int) then ((spec_l01Value.f k (bt x0 (wrap64 (x5 + 1)))).bind fun t120 => (if t119 < 0 then (some ((⟨#[]⟩ : ByteArray), false)) else (if t120 < 0 then (some ((⟨#[]⟩ : ByteArray), false)) else (if x4.length < 140737488355328 then (spec_DecodeHex.l0 k x0 (x4 ++ [(wrap64 ((wrap64 (16 * t119)) + t120)) % 256]) (wrap64 (x5 + 2))) else (none))))) else (none)) else (none))) else (none)) else (some (strOfNums x4, true))
end
def spec_DecodeHex.f (k : Nat) (a0 : ByteArray) : Option (ByteArray × Bool) := if (a0.size : Int) > 40000 then (spec_DecodeHex.j0 k a0 true) else (spec_DecodeHex.j0 k a0 (((a0.size : Int) % 2) != 0))
set_option maxHeartbeats 8000000 in
set_option maxRecDepth 100000 in
theorem spec_DecodeHex.calls (k : Nat) (a0 : ByteArray) (r1 : ByteArray) (r2 : Bool) (w : World) (h : spec_DecodeHex.f k a0 = some (r1, r2)) :
    Calls Try.prog 7 #[.string a0] w fun e w' => e = .returned (.tuple #[.string r1, .bool r2]) ∧ Below w.heap.size w w' := by
  have HB := Aside0.mk (Below.refl w.heap.size w)
  have H : (if (a0.size : Int) > 40000 then (spec_DecodeHex.j0 k a0 true) else (spec_DecodeHex.j0 k a0 (((a0.size : Int) % 2) != 0))) = some (r1, r2) := h
  clear h
  have HC2 := Aside0.mk H
  clear H
  go_enter Try.func7, Try.ntmps7
  go_upto_region 1 with (fail)
  go_cut [16] (fun v16 wc => ∃ (kq : Nat) (x16_1 : Bool), v16 = .bool x16_1 ∧ Aside0 (spec_DecodeHex.j0 kq a0 x16_1 = some (r1, r2)) ∧ Aside0 (kq ≤ k) ∧ Aside0 (Below w.heap.size w wc))
  case first =>
    have H := HC2.out
    clear HC2
    by_cases c3 : (a0.size : Int) > 40000
    · rw [if_pos c3] at H
      have c3b0 : decide (40000 < (a0.size : Int)) = true := decide_eq_true c3
      have c3b1 : decide (40000 < a0.size) = true := decide_eq_true (by omega)
      clear c3
      (first | rw [c3b0] | (simp only [i64_w, i32_w]; rw [c3b0]) | skip)
      have H' := Aside0.mk H
      clear H
      go_wp2
      go_meet
      case rel => exact ⟨_, (true), (by first | rfl | (simp; done) | (simp [*]; done)), H', ⟨by first | omega | exact Nat.le_refl _⟩, ⟨by repeat (first | (with_reducible first | exact HB.out | apply below_alloc | apply pw_below_drewN | apply below_drew1) | exact HB.out)⟩⟩
    · rw [if_neg c3] at H
      have c3b0 : decide (40000 < (a0.size : Int)) = false := decide_eq_false c3
      have c3b1 : decide (40000 < a0.size) = false := decide_eq_false (by omega)
      clear c3
      (first | rw [c3b0] | (simp only [i64_w, i32_w]; rw [c3b0]) | skip)
      have H' := Aside0.mk H
      clear H
      go_wp2
      go_meet
      case rel => exact ⟨_, ((((a0.size : Int) % 2) != 0)), (by first | rfl | (simp; done) | (simp [*]; done)), H', ⟨by first | omega | exact Nat.le_refl _⟩, ⟨by repeat (first | (with_reducible first | exact HB.out | apply below_alloc | apply pw_below_drewN | apply below_drew1) | exact HB.out)⟩⟩
  case rest =>
    clear HC2
    try clear p2
    try clear c3
    try clear c3b0
    try clear c3b1
    obtain ⟨kq, x16_1, rfl, HA, HJ1, HB⟩ := hcut
    cases kq with
    | zero => exact absurd HA.out (by simp [spec_DecodeHex.j0])
    | succ kj1 =>
      have H := HA.out
      clear HA
      simp only [spec_DecodeHex.j0] at H
      by_cases c4 : x16_1 = true
      · subst c4
        have H1 : (some ((⟨#[]⟩ : ByteArray), false)) = some (r1, r2) := by rw [if_pos rfl] at H; exact H
        clear H
        have H := H1
        clear H1
        simp only [Option.some.injEq, Prod.mk.injEq] at H
        obtain ⟨rfl, rfl⟩ := H
        go_wp2
        go_ret2
        exact ⟨by first | rfl | (simp [errW_none, errW_some] <;> rfl) | (simp [*, errW_none, errW_some] <;> rfl), by repeat (first | (with_reducible first | exact HB.out | apply below_alloc | apply pw_below_drewN | apply below_drew1) | exact HB.out)⟩
      · replace c4 := Bool.eq_false_iff.mpr c4
        subst c4
        have H1 : (spec_DecodeHex.l0 kj1 a0 (([] : List Int)) 0) = some (r1, r2) := by rw [if_neg (show ¬ (false = true) by decide)] at H; exact H
        clear H
        have H := H1
        clear H1
        obtain ⟨y116, hy116⟩ : ∃ y_ : List Int, y_ = (([] : List Int)) := ⟨_, rfl⟩
        replace H : (spec_DecodeHex.l0 kj1 a0 y116 0) = some (r1, r2) := by first | (rw [hy116]; with_reducible exact H) | (have H2_ := (Option.bind_some _ _).symm.trans H; rw [hy116]; with_reducible exact H2_) | (have H2_ := (Option.bind_some _ _).symm.trans H; with_reducible exact H2_) | with_reducible exact H | (rw [hy116]; exact H) | exact H
        have Ny116 := Aside0.mk hy116
        clear hy116
        have H' := Aside0.mk H
        clear H
        go_wp2_with (first | ((with_reducible refine gate_dst (N := 17) rfl ?_); (try (refine gate_guard (by rfl) ?_; dsimp only)); refine Kd.R_lit (Kd.int .u8) _ 5 ?hg (N := 17) ?hd (xs := ([] : List Int)) (inner := []) (ok := fun _ => True) (okp := fun _ => True) ?hr ?hp (fun _ hk => hk) trivial (Below.refl _ _) (Nat.le_refl _) (by simp) ?_; (case hd => rfl); (case hg => rfl); (case hr => first | (go_simp; done) | (go_simp; rfl)); (case hp => exact (Reps.none _ _)); intro v117 w5 ho6 hb hg_ hnew_; clear hg_ hnew_; (first | rw [← Ny116.out] at ho6 | (simp only [Int.reduceToNat] at ho6; rw [← Ny116.out] at ho6)); have n0_ := Aside0.mk (Kd.R_lower ho6 (below_size (by repeat (first | (with_reducible first | exact HB.out | apply below_alloc | apply pw_below_drewN | apply below_drew1) | exact HB.out)))); have n1_ := Aside0.mk (below_step (by repeat (first | (with_reducible first | exact HB.out | apply below_alloc | apply pw_below_drewN | apply below_drew1) | exact HB.out)) hb); clear HB; have HO118 := n0_; have HB := n1_; clear n0_ n1_; clear hb ho6))
        go_loopg [4, 5] kj1 (fun kq v4 v5 w' => ∃ (x4_2 : List Int) (x5_2 : Int), v5 = .int .i64 x5_2 ∧ Aside0 (spec_DecodeHex.l0 kq a0 x4_2 x5_2 = some (r1, r2)) ∧ Aside0 (kq ≤ kj1) ∧ Aside0 (Kd.R (Kd.int .u8) 5 w' w.heap.size (fun _ => True) v4 x4_2) ∧ Aside0 (Below w.heap.size w w'))
        case atStart => exact ⟨(y116), (0), (by first | rfl | (simp; done) | (simp [*]; done)), H', ⟨Nat.le_refl _⟩, ⟨by (with_reducible repeat (first | apply Kd.R_alloc | apply Kd.R_drewN | apply Kd.R_drew)); exact HO118.out⟩, ⟨by repeat (first | (with_reducible first | exact HB.out | apply below_alloc | apply pw_below_drewN | apply below_drew1) | exact HB.out)⟩⟩
        case round =>
          clear H'
          try clear p2
          try clear c3
          try clear c3b0
          try clear c3b1
          try clear c4
          try clear p2
          obtain ⟨x4_2, x5_2, rfl, HA, HK2, HO_4, HB⟩ := hrel
          cases gk with
          | zero => exact absurd HA.out (by simp [spec_DecodeHex.l0])
          | succ k2 =>
            have H := HA.out
            clear HA
            simp only [spec_DecodeHex.l0] at H
            by_cases c7 : x5_2 < (a0.size : Int)
            · rw [if_pos c7] at H
              have c7b0 : decide (x5_2 < (a0.size : Int)) = true := decide_eq_true c7
              clear c7
              by_cases c8 : 0 ≤ x5_2
              · rw [if_pos c8] at H
                have c8b0 : decide (0 ≤ x5_2) = true := decide_eq_true c8
                clear c8
                replace H := Option.bind_eq_some_iff.mp H
                obtain ⟨t119, A100, H⟩ := H
                replace H : (if 0 ≤ (wrap64 (x5_2 + 1)) then (if (wrap64 (x5_2 + 1)) < (a0.size : Int) then ((spec_l01Value.f k2 (bt a0 (wrap64 (x5_2 + 1)))).bind fun t120 => (if t119 < 0 then (some ((⟨#[]⟩ : ByteArray), false)) else (if t120 < 0 then (some ((⟨#[]⟩ : ByteArray), false)) else (if x4_2.length < 140737488355328 then (spec_DecodeHex.l0 k2 a0 (x4_2 ++ [(wrap64 ((wrap64 (16 * t119)) + t120)) % 256]) (wrap64 (x5_2 + 2))) else (none))))) else (none)) else (none)) = some (r1, r2) := H
                have A10 := Aside0.mk A100
                clear A100
                obtain ⟨ji11, hji11⟩ : ∃ j_ : Int, (wrap64 (x5_2 + 1)) = j_ := ⟨_, rfl⟩
                replace H : (if 0 ≤ (ji11) then (if (ji11) < (a0.size : Int) then ((spec_l01Value.f k2 (bt a0 (ji11))).bind fun t120 => (if t119 < 0 then (some ((⟨#[]⟩ : ByteArray), false)) else (if t120 < 0 then (some ((⟨#[]⟩ : ByteArray), false)) else (if x4_2.length < 140737488355328 then (spec_DecodeHex.l0 k2 a0 (x4_2 ++ [(wrap64 ((wrap64 (16 * t119)) + t120)) % 256]) (wrap64 (x5_2 + 2))) else (none))))) else (none)) else (none)) = some (r1, r2) := by first | (rw [hji11] at H; exact H) | (simp only [hji11] at H ⊢; exact H)
                (try rw [hji11] at A10)
                have hji11w : (IntKind.i64.wrap (x5_2 + 1)) = ji11 := (i64_w _).trans hji11
                by_cases c12 : 0 ≤ (ji11)
                · rw [if_pos c12] at H
                  have c12b0 : decide (0 ≤ (ji11)) = true := decide_eq_true c12
                  clear c12
                  by_cases c13 : (ji11) < (a0.size : Int)
                  · rw [if_pos c13] at H
                    have c13b0 : decide ((ji11) < (a0.size : Int)) = true := decide_eq_true c13
                    clear c13
                    replace H := Option.bind_eq_some_iff.mp H
                    obtain ⟨t120, A150, H⟩ := H
                    replace H : (if t119 < 0 then (some ((⟨#[]⟩ : ByteArray), false)) else (if t120 < 0 then (some ((⟨#[]⟩ : ByteArray), false)) else (if x4_2.length < 140737488355328 then (spec_DecodeHex.l0 k2 a0 (x4_2 ++ [(wrap64 ((wrap64 (16 * t119)) + t120)) % 256]) (wrap64 (x5_2 + 2))) else (none)))) = some (r1, r2) := H
                    have A15 := Aside0.mk A150
                    clear A150
                    by_cases c16 : t119 < 0
                    · rw [if_pos c16] at H
                      have c16b0 : decide (t119 < 0) = true := decide_eq_true c16
                      clear c16
                      simp only [Option.some.injEq, Prod.mk.injEq] at H
                      obtain ⟨rfl, rfl⟩ := H
                      have p9 : 0 ≤ (x5_2 : Int) := of_decide_eq_true (by first | (with_reducible assumption) | assumption)
                      have q9 : x5_2 < (a0.size : Int) := of_decide_eq_true (by first | (with_reducible assumption) | assumption)
                      have hx9 := bt_at a0 x5_2
                      replace p9 := eq_true p9
                      replace q9 := eq_true q9
                      go_wp2_with (first | ((with_reducible refine gate_callee (f := 12) rfl ?_); refine goesL_ (some 27) rfl rfl Try.func12 (by kernel_rfl) rfl #[.int .u8 (bt a0 x5_2)] rfl (by (try simp only [List.map_toArray, List.map_cons, List.map_nil]); first | done | rfl | (simp only [List.length_drop, List.length_take]; rfl)) ?_; (with_reducible refine (spec_l01Value.calls k2 (bt a0 x5_2) t119 _ A10.out).mono ?_); rintro e w' ⟨rfl, ⟨nd, rfl⟩⟩; refine ⟨_, rfl, ?_⟩; have p14 : 0 ≤ ((ji11) : Int) := of_decide_eq_true (by first | (with_reducible assumption) | assumption); have q14 : (ji11) < (a0.size : Int) := of_decide_eq_true (by first | (with_reducible assumption) | assumption); have hx14 := bt_at a0 (ji11); replace p14 := eq_true p14; replace q14 := eq_true q14) | ((with_reducible refine gate_callee (f := 12) rfl ?_); refine goesL_ (some 32) rfl rfl Try.func12 (by kernel_rfl) rfl #[.int .u8 (bt a0 (ji11))] rfl (by (try simp only [List.map_toArray, List.map_cons, List.map_nil]); first | done | (simp only [hji11]; rfl) | rfl | (simp only [List.length_drop, List.length_take]; rfl)) ?_; (with_reducible refine (spec_l01Value.calls k2 (bt a0 (ji11)) t120 _ A15.out).mono ?_); rintro e w' ⟨rfl, ⟨nd, rfl⟩⟩; refine ⟨_, rfl, ?_⟩))
                      go_ret2
                      exact ⟨by first | rfl | (simp [errW_none, errW_some] <;> rfl) | (simp only [← hji11]; first | rfl | (simp [errW_none, errW_some] <;> rfl)) | (simp [*, errW_none, errW_some] <;> rfl), by repeat (first | (with_reducible first | exact HB.out | apply below_alloc | apply pw_below_drewN | apply below_drew1) | exact HB.out)⟩
                    · rw [if_neg c16] at H
                      have c16b0 : decide (t119 < 0) = false := decide_eq_false c16
                      clear c16
                      by_cases c17 : t120 < 0
                      · rw [if_pos c17] at H
                        have c17b0 : decide (t120 < 0) = true := decide_eq_true c17
                        clear c17
                        simp only [Option.some.injEq, Prod.mk.injEq] at H
                        obtain ⟨rfl, rfl⟩ := H
                        have p9 : 0 ≤ (x5_2 : Int) := of_decide_eq_true (by first | (with_reducible assumption) | assumption)
                        have q9 : x5_2 < (a0.size : Int) := of_decide_eq_true (by first | (with_reducible assumption) | assumption)
                        have hx9 := bt_at a0 x5_2
                        replace p9 := eq_true p9
                        replace q9 := eq_true q9
                        go_wp2_with (first | ((with_reducible refine gate_callee (f := 12) rfl ?_); refine goesL_ (some 27) rfl rfl Try.func12 (by kernel_rfl) rfl #[.int .u8 (bt a0 x5_2)] rfl (by (try simp only [List.map_toArray, List.map_cons, List.map_nil]); first | done | rfl | (simp only [List.length_drop, List.length_take]; rfl)) ?_; (with_reducible refine (spec_l01Value.calls k2 (bt a0 x5_2) t119 _ A10.out).mono ?_); rintro e w' ⟨rfl, ⟨nd, rfl⟩⟩; refine ⟨_, rfl, ?_⟩; have p14 : 0 ≤ ((ji11) : Int) := of_decide_eq_true (by first | (with_reducible assumption) | assumption); have q14 : (ji11) < (a0.size : Int) := of_decide_eq_true (by first | (with_reducible assumption) | assumption); have hx14 := bt_at a0 (ji11); replace p14 := eq_true p14; replace q14 := eq_true q14) | ((with_reducible refine gate_callee (f := 12) rfl ?_); refine goesL_ (some 32) rfl rfl Try.func12 (by kernel_rfl) rfl #[.int .u8 (bt a0 (ji11))] rfl (by (try simp only [List.map_toArray, List.map_cons, List.map_nil]); first | done | (simp only [hji11]; rfl) | rfl | (simp only [List.length_drop, List.length_take]; rfl)) ?_; (with_reducible refine (spec_l01Value.calls k2 (bt a0 (ji11)) t120 _ A15.out).mono ?_); rintro e w' ⟨rfl, ⟨nd, rfl⟩⟩; refine ⟨_, rfl, ?_⟩))
                        go_ret2
                        exact ⟨by first | rfl | (simp [errW_none, errW_some] <;> rfl) | (simp only [← hji11]; first | rfl | (simp [errW_none, errW_some] <;> rfl)) | (simp [*, errW_none, errW_some] <;> rfl), by repeat (first | (with_reducible first | exact HB.out | apply below_alloc | apply pw_below_drewN | apply below_drew1) | exact HB.out)⟩
                      · rw [if_neg c17] at H
                        have c17b0 : decide (t120 < 0) = false := decide_eq_false c17
                        clear c17
                        by_cases c18 : x4_2.length < 140737488355328
                        · rw [if_pos c18] at H
                          have LMc18 := Aside0.mk c18
                          clear c18
                          obtain ⟨y121, hy121⟩ : ∃ y_ : List Int, y_ = (x4_2 ++ [(wrap64 ((wrap64 (16 * t119)) + t120)) % 256]) := ⟨_, rfl⟩
                          replace H : (spec_DecodeHex.l0 k2 a0 y121 (wrap64 (x5_2 + 2))) = some (r1, r2) := by first | (rw [hy121]; with_reducible exact H) | (have H2_ := (Option.bind_some _ _).symm.trans H; rw [hy121]; with_reducible exact H2_) | (have H2_ := (Option.bind_some _ _).symm.trans H; with_reducible exact H2_) | with_reducible exact H | (rw [hy121]; exact H) | exact H
                          have Ny121 := Aside0.mk hy121
                          clear hy121
                          have H' := Aside0.mk H
                          clear H
                          have p9 : 0 ≤ (x5_2 : Int) := of_decide_eq_true (by first | (with_reducible assumption) | assumption)
                          have q9 : x5_2 < (a0.size : Int) := of_decide_eq_true (by first | (with_reducible assumption) | assumption)
                          have hx9 := bt_at a0 x5_2
                          replace p9 := eq_true p9
                          replace q9 := eq_true q9
                          go_wp2_with (first | ((with_reducible refine gate_callee (f := 12) rfl ?_); refine goesL_ (some 27) rfl rfl Try.func12 (by kernel_rfl) rfl #[.int .u8 (bt a0 x5_2)] rfl (by (try simp only [List.map_toArray, List.map_cons, List.map_nil]); first | done | rfl | (simp only [List.length_drop, List.length_take]; rfl)) ?_; (with_reducible refine (spec_l01Value.calls k2 (bt a0 x5_2) t119 _ A10.out).mono ?_); rintro e w' ⟨rfl, ⟨nd, rfl⟩⟩; refine ⟨_, rfl, ?_⟩; have p14 : 0 ≤ ((ji11) : Int) := of_decide_eq_true (by first | (with_reducible assumption) | assumption); have q14 : (ji11) < (a0.size : Int) := of_decide_eq_true (by first | (with_reducible assumption) | assumption); have hx14 := bt_at a0 (ji11); replace p14 := eq_true p14; replace q14 := eq_true q14) | ((with_reducible refine gate_callee (f := 12) rfl ?_); refine goesL_ (some 32) rfl rfl Try.func12 (by kernel_rfl) rfl #[.int .u8 (bt a0 (ji11))] rfl (by (try simp only [List.map_toArray, List.map_cons, List.map_nil]); first | done | (simp only [hji11]; rfl) | rfl | (simp only [List.length_drop, List.length_take]; rfl)) ?_; (with_reducible refine (spec_l01Value.calls k2 (bt a0 (ji11)) t120 _ A15.out).mono ?_); rintro e w' ⟨rfl, ⟨nd, rfl⟩⟩; refine ⟨_, rfl, ?_⟩) | ((with_reducible refine gate_builtin (b := .append) (xs := #[.tmp 39, .tmp 45]) rfl ?_); (try (refine gate_guard (by rfl) ?_; dsimp only)); at_builtin; refine Kd.R_append (Kd.int .u8) (w0 := w) w.heap.size rfl (.tmp 39) (.tmp 45) 25 5 (.int .u8 0) 1 rfl Try.underlying25 info5 rfl (by decide) (by omega) u4 x4_2 ((wrap64 ((wrap64 (16 * t119)) + t120)) % 256) [.int .u8 ((wrap64 ((wrap64 (16 * t119)) + t120)) % 256)] (fun _ => True) (fun _ => False) rfl rfl ?aP (fun _ hk => hk.elim) ?aF ?aO ?aB ?aS ?aL ?_; (case aP => exact rfl); (case aB => exact (by repeat (first | (with_reducible first | exact HB.out | apply below_alloc | apply pw_below_drewN | apply below_drew1) | exact HB.out))); (case aF => exact (fun _ _ => trivial)); (case aO => exact (by (with_reducible repeat (first | apply Kd.R_alloc | apply Kd.R_drewN | apply Kd.R_drew)); exact HO_4.out)); (case aS => exact (below_size (by repeat (first | (with_reducible first | exact HB.out | apply below_alloc | apply pw_below_drewN | apply below_drew1) | exact HB.out)))); (case aL => have := LMc18.out; omega); intro v122 w19 ho hb hg hat; rw [← Ny121.out] at ho; have n0_ := Aside0.mk (hb); have n1_ := Aside0.mk (ho); clear HB; clear HO_4; have HB := n0_; have HO123 := n1_; clear n0_ n1_; clear ho hb hg hat))
                          go_roundg k2
                          case measure => have := HJ1.out; have := HK2.out; omega
                          case rel => exact ⟨(y121), (wrap64 (x5_2 + 2)), (by first | rfl | (simp; done) | (simp [*]; done)), H', ⟨by have := HJ1.out; have := HK2.out; omega⟩, ⟨by (with_reducible repeat (first | apply Kd.R_alloc | apply Kd.R_drewN | apply Kd.R_drew)); exact HO123.out⟩, ⟨by repeat (first | (with_reducible first | exact HB.out | apply below_alloc | apply pw_below_drewN | apply below_drew1) | exact HB.out)⟩⟩
                        · rw [if_neg c18] at H
                          exact absurd H (by simp)
                  · rw [if_neg c13] at H
                    exact absurd H (by simp)
                · rw [if_neg c12] at H
                  exact absurd H (by simp)
              · rw [if_neg c8] at H
                exact absurd H (by simp)
            · rw [if_neg c7] at H
              have c7b0 : decide (x5_2 < (a0.size : Int)) = false := decide_eq_false c7
              clear c7
              simp only [Option.some.injEq, Prod.mk.injEq] at H
              obtain ⟨rfl, rfl⟩ := H
              have hcv20 := own_string (P := Try.prog) Try.underlying25 Try.underlying5 Try.underlying9 (Kd.own_of_R HO_4.out)
              go_wp2
              go_ret2
              exact ⟨by first | rfl | (simp [errW_none, errW_some] <;> rfl) | (simp [*, errW_none, errW_some] <;> rfl), by repeat (first | (with_reducible first | exact HB.out | apply below_alloc | apply pw_below_drewN | apply below_drew1) | exact HB.out)⟩
def valD (c : Int) : Int := if 48 ≤ c ∧ c ≤ 57 then c - 48 else if 97 ≤ c ∧ c ≤ 102 then c - 87 else -1
def decA : List UInt8 → List UInt8 → Option (List UInt8)
  | acc, [] => some acc
  | _, [_] => none
  | acc, a :: b :: l => if valD a.toNat < 0 ∨ valD b.toNat < 0 then none else decA (acc ++ [UInt8.ofNat (16 * valD a.toNat + valD b.toNat).toNat]) l
set_option maxHeartbeats 8000000 in
set_option maxRecDepth 100000 in
theorem dec_digit (c : Int) (h0 : 0 ≤ c) (h1 : c < 256) (w : World) : Calls Try.prog 13 #[.int .u8 c] w fun e w' => e = .returned (.int .i64 (valD c)) ∧ w' = w := by
  have rest : ¬ (48 ≤ c ∧ c ≤ 57) → valD c = if 97 ≤ c ∧ c ≤ 102 then c - 87 else -1 := fun h => by unfold valD; rw [if_neg h]
  by_cases a1 : 48 ≤ c
  · have b1 : decide (48 ≤ c) = true := decide_eq_true a1
    by_cases a2 : c ≤ 57
    · have b2 : decide (c ≤ 57) = true := decide_eq_true a2
      have e : Aside0 (valD c = c - 48) := ⟨by unfold valD; rw [if_pos ⟨a1, a2⟩]⟩
      clear rest
      go_enter Try.func13, Try.ntmps13
      go_wp2
      repeat (go_quiet (fail); try go_wp2)
      go_ret
      exact ⟨by rw [e.out]; rfl, rfl⟩
    · have b2 : decide (c ≤ 57) = false := decide_eq_false a2
      have e := rest (fun h => a2 h.2)
      by_cases a3 : 97 ≤ c
      · have b3 : decide (97 ≤ c) = true := decide_eq_true a3
        by_cases a4 : c ≤ 102
        · have b4 : decide (c ≤ 102) = true := decide_eq_true a4
          have e2 : Aside0 (valD c = c - 97 + 10) := ⟨by rw [e, if_pos ⟨a3, a4⟩]; omega⟩
          clear rest e a2
          go_enter Try.func13, Try.ntmps13
          go_wp2
          repeat (go_quiet (fail); try go_wp2)
          go_ret
          exact ⟨by rw [e2.out]; rfl, rfl⟩
        · have b4 : decide (c ≤ 102) = false := decide_eq_false a4
          have e2 : Aside0 (valD c = -1) := ⟨by rw [e, if_neg (fun h => a4 h.2)]⟩
          clear rest e a2 a4
          go_enter Try.func13, Try.ntmps13
          go_wp2
          repeat (go_quiet (fail); try go_wp2)
          go_ret
          exact ⟨by rw [e2.out]; rfl, rfl⟩
      · have b3 : decide (97 ≤ c) = false := decide_eq_false a3
        have e2 : Aside0 (valD c = -1) := ⟨by rw [e, if_neg (fun h => a3 h.1)]⟩
        clear rest e a2 a3
        go_enter Try.func13, Try.ntmps13
        go_wp2
        repeat (go_quiet (fail); try go_wp2)
        go_ret
        exact ⟨by rw [e2.out]; rfl, rfl⟩
  · have b1 : decide (48 ≤ c) = false := decide_eq_false a1
    have b3 : decide (97 ≤ c) = false := decide_eq_false (by omega)
    have e2 : Aside0 (valD c = -1) := ⟨by rw [rest (fun h => a1 h.1), if_neg (fun h => by omega)]⟩
    clear rest a1
    go_enter Try.func13, Try.ntmps13
    go_wp2
    repeat (go_quiet (fail); try go_wp2)
    go_ret
    exact ⟨by rw [e2.out]; rfl, rfl⟩
theorem or_byte (x y : Int) (hx : 0 ≤ x ∧ x ≤ 15) (hy : 0 ≤ y ∧ y ≤ 15) : bits BinOp.or IntKind.i64 (wrap64 (x * 16)) y % 256 = ((UInt8.ofNat (16 * x + y).toNat).toNat : Int) := by
  have key : ∀ a b : Fin 16, bits BinOp.or IntKind.i64 (wrap64 ((a.val : Int) * 16)) (b.val : Int) % 256 = ((UInt8.ofNat (16 * (a.val : Int) + (b.val : Int)).toNat).toNat : Int) := by decide +kernel
  have h := key ⟨x.toNat, by omega⟩ ⟨y.toNat, by omega⟩
  simp only [Int.toNat_of_nonneg hx.1, Int.toNat_of_nonneg hy.1] at h
  exact h
def decR (o : Option (List UInt8)) : ByteArray × Bool := match o with | some d => (⟨d.toArray⟩, true) | none => (⟨#[]⟩, false)
theorem drop_two (s : ByteArray) (i : Nat) (h : i + 2 ≤ s.size) : ∃ a b : UInt8, s.data.toList.drop i = a :: b :: s.data.toList.drop (i + 2) ∧ bt s (i : Int) = a.toNat ∧ bt s ((i : Int) + 1) = b.toNat := by
  have h1 : i < s.data.toList.length := by rw [data_length]; omega
  have h2 : i + 1 < s.data.toList.length := by rw [data_length]; omega
  refine ⟨s.data.toList[i], s.data.toList[i + 1], ?_, ?_, ?_⟩
  · rw [List.drop_eq_getElem_cons h1, List.drop_eq_getElem_cons h2]
  · obtain ⟨b, hb, e⟩ := at_byte s (i : Int) (by omega) (by omega)
    rw [Int.toNat_natCast, List.getElem?_eq_getElem h1] at hb
    rw [e, ← Option.some.inj hb]
  · obtain ⟨b, hb, e⟩ := at_byte s ((i : Int) + 1) (by omega) (by omega)
    rw [show ((i : Int) + 1).toNat = i + 1 by omega, List.getElem?_eq_getElem h2] at hb
    rw [e, ← Option.some.inj hb]
theorem valD_in (c : Int) : -1 ≤ valD c ∧ valD c ≤ 15 := by
  unfold valD
  split
  · omega
  · split <;> omega
theorem below_drewN' {B : Nat} {a w : World} (n : Nat) (h : Below B a w) : Below B a (w.drewN n) := ⟨h.os, h.tape, h.output, h.size, h.block⟩
set_option maxHeartbeats 8000000 in
set_option maxRecDepth 100000 in
theorem dec_long (a0 : ByteArray) (r1 : ByteArray) (r2 : Bool) (w : World) (he : a0.size % 2 = 0) (hs : a0.size ≤ 40000) (hr : decR (decA [] a0.data.toList) = (r1, r2)) : Calls Try.prog 8 #[.string a0] w fun e w' => e = .returned (.tuple #[.string r1, .bool r2]) ∧ Below w.heap.size w w' := by
  have tB := Try.underlying29
  have uB := run_underlying tB
  have hsz := Aside0.mk hs
  have hev := Aside0.mk he
  have hR := Aside0.mk hr
  have k1 : ((a0.size : Int) % 2 != 0) = false := by simp; omega
  have k3 : decide (20000 < wrap64 ((a0.size : Int) / 2)) = false := decide_eq_false (by unfold wrap64; omega)
  clear hs he hr
  go_enter Try.func8, Try.ntmps8
  go_wp2
  have HF : Aside0 (Lib.IsBuilderF 29 5 w.heap.size w.heap.size [] (w.alloc (.cells #[.pointer none, .slice none 0 0] 29))) := ⟨.of (Lib.fresh_isBuilder _ _ _)⟩
  go_loopw [6, 7, 8] (fun v6 v7 v8 wr => ∃ (i : Int) (d : List UInt8), v6 = .int .i64 i ∧ Aside0 (0 ≤ i ∧ i ≤ a0.size ∧ i % 2 = 0 ∧ (d.length : Int) ≤ i) ∧ Aside0 (decR (decA d (a0.data.toList.drop i.toNat)) = (r1, r2)) ∧ Aside0 (Lib.IsBuilderF 29 5 w.heap.size w.heap.size (Lib.byteCells d) wr) ∧ Aside0 (Below w.heap.size w wr)) (fun v6 _ _ _ => a0.size - (intOf v6).toNat)
  case atStart => exact ⟨0, [], rfl, ⟨by simp⟩, ⟨hR.out⟩, ⟨HF.out⟩, ⟨below_alloc (Below.refl _ _) _⟩⟩
  case round =>
    clear HF hR k1 k3
    obtain ⟨i, d, rfl, hk, hD, hI, HB⟩ := hrel
    by_cases hlt : i < (a0.size : Int)
    · obtain ⟨n, rfl⟩ : ∃ n : Nat, i = n := ⟨i.toNat, by have := hk.out; omega⟩
      obtain ⟨a, b, e1, e2, e3⟩ := drop_two a0 n (by have := hk.out; have := hev.out; omega)
      have hD2 := hD.out
      rw [Int.toNat_natCast, e1] at hD2
      have hltb : decide ((n : Int) < (a0.size : Int)) = true := decide_eq_true hlt
      have hw : wrap64 ((n : Int) + 1) = (n : Int) + 1 := by have := hk.out; have := hsz.out; unfold wrap64; omega
      have p7 : (0 ≤ (n : Int)) = True := eq_true (by omega)
      have q7 := eq_true hlt
      have hx7 : ∀ h : n < a0.size, ((a0[n]'h).toNat : Int) = a.toNat := fun h => (bt_at a0 n h).trans e2
      have p8 : (0 ≤ (n : Int) + 1) = True := eq_true (by omega)
      have q8 : ((n : Int) + 1 < (a0.size : Int)) = True := eq_true (by have := hk.out; have := hev.out; omega)
      have hx8 : ∀ h : n + 1 < a0.size, ((a0[n + 1]'h).toNat : Int) = b.toNat := by
        intro h
        have h3 := e3
        rw [← bt_at a0 ((n : Int) + 1) (by omega)] at h3
        have e : ((n : Int) + 1).toNat = n + 1 := by omega
        simpa only [e] using h3
      go_wp2
      have hd1 : ∀ w, Calls Try.prog 13 #[.int .u8 (a.toNat : Int)] w fun e w' => e = .returned (.int .i64 (valD a.toNat)) ∧ w' = w := fun w => dec_digit _ (by omega) (by have := a.toNat_lt; omega) w
      have hd2 : ∀ w, Calls Try.prog 13 #[.int .u8 (b.toNat : Int)] w fun e w' => e = .returned (.int .i64 (valD b.toNat)) ∧ w' = w := fun w => dec_digit _ (by omega) (by have := b.toNat_lt; omega) w
      go_quiet (first | (go_at_call 13; with_reducible exact Calls.quiet_of_same (v := .int .i64 (valD (a.toNat : Int))) (hd1 _)) | (go_at_call 13; with_reducible exact Calls.quiet_of_same (v := .int .i64 (valD (b.toNat : Int))) (hd2 _)))
      have HB1 := Aside0.mk (below_drewN' nq HB.out)
      have va := valD_in (a.toNat : Int)
      have vb := valD_in (b.toNat : Int)
      by_cases ca : valD (a.toNat : Int) < 0
      · have ca1 : decide (valD (a.toNat : Int) < 0) = true := decide_eq_true ca
        have hres : Aside0 ((⟨#[]⟩ : ByteArray) = r1 ∧ false = r2) := ⟨by
          rw [decA, if_pos (Or.inl ca)] at hD2
          simpa [decR] using hD2⟩
        clear ca hD2 va vb hd1 hd2 hx7 hx8
        go_wp2
        go_ret2
        exact ⟨by rw [← hres.out.1, ← hres.out.2]; rfl, HB1.out⟩
      · have ca1 : decide (valD (a.toNat : Int) < 0) = false := decide_eq_false ca
        by_cases cb : valD (b.toNat : Int) < 0
        · have cb1 : decide (valD (b.toNat : Int) < 0) = true := decide_eq_true cb
          have hres : Aside0 ((⟨#[]⟩ : ByteArray) = r1 ∧ false = r2) := ⟨by
            rw [decA, if_pos (Or.inr cb)] at hD2
            simpa [decR] using hD2⟩
          clear ca cb hD2 va vb hd1 hd2 hx7 hx8
          go_wp2
          go_ret2
          exact ⟨by rw [← hres.out.1, ← hres.out.2]; rfl, HB1.out⟩
        · have cb1 : decide (valD (b.toNat : Int) < 0) = false := decide_eq_false cb
          rw [decA, if_neg (fun h => h.elim ca cb)] at hD2
          have HD2 := Aside0.mk hD2
          have hI1 : Lib.IsBuilderF 29 5 w.heap.size w.heap.size (Lib.byteCells d) (wr.drewN nq) := hI.out
          have HI1 := Aside0.mk hI1
          have VA := Aside0.mk (⟨by omega, va.2⟩ : 0 ≤ valD (a.toNat : Int) ∧ valD (a.toNat : Int) ≤ 15)
          have VB := Aside0.mk (⟨by omega, vb.2⟩ : 0 ≤ valD (b.toNat : Int) ∧ valD (b.toNat : Int) ≤ 15)
          clear ca cb hD2 va vb hd1 hd2 hx7 hx8 hI1
          go_wp2_with (go_at_call 10; refine (bld_put _ _ _ _ _ HI1.out (by rw [Lib.byteCells_length]; have := hk.out; have := hsz.out; omega) HB1.out.size).mono ?_; rintro e w1 ⟨rfl, hI2, hb2⟩; have HI2 := Aside0.mk hI2; have HB2 := Aside0.mk (HB1.out.trans hb2); clear hI2 hb2)
          have hw2 : wrap64 ((n : Int) + 2) = (n : Int) + 2 := by have := hk.out; have := hsz.out; unfold wrap64; omega
          have hle : (n : Int) + 2 ≤ a0.size := by have := hk.out; have := hev.out; omega
          refine ⟨⟨(n : Int) + 2, d ++ [UInt8.ofNat (16 * valD (a.toNat : Int) + valD (b.toNat : Int)).toNat], by rw [hw2], ⟨by have := hk.out; simp; omega⟩, ⟨?_⟩, ⟨?_⟩, HB2⟩, ?_⟩
          · rw [show ((n : Int) + 2).toNat = n + 2 by omega]
            exact HD2.out
          · have h := HI2.out
            rw [or_byte _ _ VA.out VB.out] at h
            simpa [Lib.byteCells] using h
          · rw [hw2]
            simp [intOf]
            omega
    · have hi : i = a0.size := by have := hk.out; omega
      subst hi
      have hltb : decide ((a0.size : Int) < (a0.size : Int)) = false := decide_eq_false hlt
      have hD2 := hD.out
      rw [Int.toNat_natCast, List.drop_eq_nil_of_le (by rw [data_length]; omega), decA] at hD2
      have hres : Aside0 ((⟨d.toArray⟩ : ByteArray) = r1 ∧ true = r2) := ⟨by simpa [decR] using hD2⟩
      clear hlt hD2
      go_wp2_with (go_at_call 11; refine (bld_str _ _ _ _ hI.out HB.out.size).mono ?_; rintro e w1 ⟨rfl, hb1⟩; have HB1 := Aside0.mk (HB.out.trans hb1); clear hb1)
      go_ret2
      exact ⟨by rw [← hres.out.1, ← hres.out.2]; rfl, HB1.out⟩
def impl_DecodeHex.f (a0 : ByteArray) : Option (ByteArray × Bool) := if 140737488355328 < a0.size then none else some (if a0.size % 2 = 0 ∧ a0.size ≤ 40000 then decR (decA [] a0.data.toList) else ((⟨#[]⟩ : ByteArray), false))
set_option maxHeartbeats 8000000 in
set_option maxRecDepth 100000 in
theorem impl_DecodeHex.calls (a0 : ByteArray) (r1 : ByteArray) (r2 : Bool) (w : World) (h : impl_DecodeHex.f a0 = some (r1, r2)) :
    Calls Try.prog 8 #[.string a0] w fun e w' => e = .returned (.tuple #[.string r1, .bool r2]) ∧ Below w.heap.size w w' := by
  by_cases hbig : 140737488355328 < a0.size
  · exact absurd ((if_pos hbig).symm.trans h) (by simp)
  replace h := (if_neg hbig).symm.trans h
  by_cases hs : a0.size % 2 = 0 ∧ a0.size ≤ 40000
  · have h1 := (congrArg some (if_pos hs)).symm.trans h
    exact dec_long a0 r1 r2 w hs.1 hs.2 (Option.some.inj h1)
  · have h1 := (congrArg some (if_neg hs)).symm.trans h
    simp only [Option.some.injEq, Prod.mk.injEq] at h1
    obtain ⟨rfl, rfl⟩ := h1
    clear h
    by_cases he : a0.size % 2 = 0
    · have k1 : ((a0.size : Int) % 2 != 0) = false := by simp; omega
      have k3 : decide (20000 < wrap64 ((a0.size : Int) / 2)) = true := decide_eq_true (by unfold wrap64; omega)
      clear he hs hbig
      go_enter Try.func8, Try.ntmps8
      go_wp2
      go_ret2
      exact ⟨rfl, Below.refl _ _⟩
    · have k1 : ((a0.size : Int) % 2 != 0) = true := by simp; omega
      clear he hs hbig
      go_enter Try.func8, Try.ntmps8
      go_wp2
      go_ret2
      exact ⟨rfl, Below.refl _ _⟩
def laws_FnExactDecodeHex.f (k : Nat) (a0 : ByteArray) : Option (Bool) := if (a0.size : Int) > 1048576 then (some true) else ((spec_DecodeHex.f k a0).bind fun bt124 => ((impl_DecodeHex.f a0).bind fun bt126 => (if bt126.1.toList = bt124.1.toList then (if (bt126.2 != bt124.2) = true then (some false) else (some true)) else (some false))))
set_option maxHeartbeats 8000000 in
set_option maxRecDepth 100000 in
theorem laws_FnExactDecodeHex.calls (k : Nat) (a0 : ByteArray) (r : Bool) (w : World) (hr_ : Aside0 (r = true)) (h : laws_FnExactDecodeHex.f k a0 = some r) :
    Calls Try.prog 4 #[.string a0] w fun e w' => e = .returned (.bool r) ∧ Below w.heap.size w w' := by
  have HB := Aside0.mk (Below.refl w.heap.size w)
  have H : (if (a0.size : Int) > 1048576 then (some true) else ((spec_DecodeHex.f k a0).bind fun bt124 => ((impl_DecodeHex.f a0).bind fun bt126 => (if bt126.1.toList = bt124.1.toList then (if (bt126.2 != bt124.2) = true then (some false) else (some true)) else (some false))))) = some r := h
  clear h
  by_cases c2 : (a0.size : Int) > 1048576
  · rw [if_pos c2] at H
    have c2b0 : decide (1048576 < (a0.size : Int)) = true := decide_eq_true c2
    have c2b1 : decide (1048576 < a0.size) = true := decide_eq_true (by omega)
    clear c2
    obtain rfl := Option.some.inj H
    go_enter Try.func4, Try.ntmps4
    go_wp2
    go_ret
    exact ⟨by first | rfl | (simp [errW_none, errW_some] <;> rfl) | (simp [*, errW_none, errW_some] <;> rfl), by repeat (first | (with_reducible first | exact HB.out | apply below_alloc | apply pw_below_drewN | apply below_drew1) | exact HB.out)⟩
  · rw [if_neg c2] at H
    have c2b0 : decide (1048576 < (a0.size : Int)) = false := decide_eq_false c2
    have c2b1 : decide (1048576 < a0.size) = false := decide_eq_false (by omega)
    clear c2
    replace H := Option.bind_eq_some_iff.mp H
    obtain ⟨⟨t124, t125⟩, A30, H⟩ := H
    replace H : ((impl_DecodeHex.f a0).bind fun bt126 => (if bt126.1.toList = t124.toList then (if (bt126.2 != t125) = true then (some false) else (some true)) else (some false))) = some r := H
    have A3 := Aside0.mk A30
    clear A30
    replace H := Option.bind_eq_some_iff.mp H
    obtain ⟨⟨t126, t127⟩, A40, H⟩ := H
    replace H : (if t126.toList = t124.toList then (if (t127 != t125) = true then (some false) else (some true)) else (some false)) = some r := H
    have A4 := Aside0.mk A40
    clear A40
    by_cases c5 : t126.toList = t124.toList
    · rw [if_pos c5] at H
      have c5b0 : (t126.toList == t124.toList) = true := beq_iff_eq.mpr c5
      have c5b1 : (t126.toList != t124.toList) = false := bne_eq_false_iff_eq.mpr c5
      clear c5
      by_cases c6 : (t127 != t125) = true
      · rw [if_pos c6] at H
        have c6b0 : (t127 != t125) = true := c6
        (try (have c6b1 : decide (t127 = t125) = false := by simpa using c6))
        (try (have c6b2 : (t127 == t125) = false := by simpa using c6))
        (try (have c6b3 : ¬ (t127 = t125) := by simpa using c6))
        clear c6
        exact absurd (Option.some.inj H) (by rw [hr_.out]; decide)
      · rw [if_neg c6] at H
        have c6b0 : (t127 != t125) = false := by simpa using c6
        (try (have c6b1 : decide (t127 = t125) = true := by simpa using c6))
        (try (have c6b2 : (t127 == t125) = true := by simpa using c6))
        clear c6
        obtain rfl := Option.some.inj H
        go_enter Try.func4, Try.ntmps4
        go_wp2_with (first | ((with_reducible refine gate_callee (f := 7) rfl ?_); refine goesL_ (some 12) rfl rfl Try.func7 (by kernel_rfl) rfl #[.string a0] rfl (by (try simp only [List.map_toArray, List.map_cons, List.map_nil]); first | done | rfl | (simp only [List.length_drop, List.length_take]; rfl)) ?_; (with_reducible refine (spec_DecodeHex.calls k a0 t124 t125 _ A3.out).mono ?_); rintro e w7 ⟨rfl, hb⟩; refine ⟨_, rfl, ?_⟩; have n0_ := Aside0.mk (below_step (by repeat (first | (with_reducible first | exact HB.out | apply below_alloc | apply pw_below_drewN | apply below_drew1) | exact HB.out)) hb); clear HB; have HB := n0_; clear n0_; (try clear hb); (try clear hb2); (try clear hk); (try clear hi)) | ((with_reducible refine gate_callee (f := 8) rfl ?_); refine goesL_ (some 17) rfl rfl Try.func8 (by kernel_rfl) rfl #[.string a0] rfl (by (try simp only [List.map_toArray, List.map_cons, List.map_nil]); first | done | rfl | (simp only [List.length_drop, List.length_take]; rfl)) ?_; (with_reducible refine (impl_DecodeHex.calls a0 t126 t127 _ A4.out).mono ?_); rintro e w8 ⟨rfl, hb⟩; refine ⟨_, rfl, ?_⟩; have n0_ := Aside0.mk (below_step (by repeat (first | (with_reducible first | exact HB.out | apply below_alloc | apply pw_below_drewN | apply below_drew1) | exact HB.out)) hb); clear HB; have HB := n0_; clear n0_; (try clear hb); (try clear hb2); (try clear hk); (try clear hi)))
        go_ret
        exact ⟨by first | rfl | (simp [errW_none, errW_some] <;> rfl) | (simp [*, errW_none, errW_some] <;> rfl), by repeat (first | (with_reducible first | exact HB.out | apply below_alloc | apply pw_below_drewN | apply below_drew1) | exact HB.out)⟩
    · rw [if_neg c5] at H
      have c5b0 : (t126.toList == t124.toList) = false := beq_eq_false_iff_ne.mpr c5
      have c5b1 : (t126.toList != t124.toList) = true := bne_iff_ne.mpr c5
      exact absurd (Option.some.inj H) (by rw [hr_.out]; decide)
end Go.Proofs.Ytfoldjbcnlhipaa.A

namespace Go.Proofs.Ytfoldjbcnlhipaa.A
open Go.ChangeShapes Go.WideShapes Go.ChangeAt Go.RowKit Go.Proofs.YtfoldjbcnlhipaaW.PrintWords Go.Proofs.YtfoldjbcnlhipaaW.PrintLast
set_option linter.unusedVariables false
set_option linter.unusedSimpArgs false
abbrev ok9 (s : ByteArray) : Prop := s.size ≤ maxLen
end Go.Proofs.Ytfoldjbcnlhipaa.A

namespace Go.Proofs.Ytfoldjbcnlhipaa.A
open Go.RowKit Go.Proofs.YtfoldjbcnlhipaaW.PrintWords Go.Proofs.YtfoldjbcnlhipaaW.PrintLast Go.Proofs.YtfoldjbcnlhipaaW.PrintMore
set_option linter.unusedVariables false
set_option linter.unusedSimpArgs false
def Ev {α : Type} (F : Nat → Option α) (r : α) : Prop := ∃ K, ∀ k, K ≤ k → F k = some r
theorem Ev.mk {α : Type} {F : Nat → Option α} {r : α} (K : Nat) (h : ∀ k, K < k → F k = some r) : Ev F r := ⟨K + 1, fun k hk => h k hk⟩
theorem Ev.get {α : Type} {F : Nat → Option α} {r : α} (h : Ev F r) : ∃ k, F k = some r := by
  obtain ⟨K, h⟩ := h
  exact ⟨K, h K (Nat.le_refl _)⟩
theorem Ev.const {α : Type} {o : Option α} {r : α} (h : o = some r) : Ev (fun _ => o) r := ⟨0, fun _ _ => h⟩
theorem Ev.ret {α : Type} (r : α) : Ev (fun _ => some r) r := ⟨0, fun _ _ => rfl⟩
theorem Ev.bind {α β : Type} {F : Nat → Option α} {G : Nat → α → Option β} {a : α} {b : β} (h1 : Ev F a) (h2 : Ev (fun k => G k a) b) : Ev (fun k => (F k).bind (G k)) b := by
  obtain ⟨K1, h1⟩ := h1
  obtain ⟨K2, h2⟩ := h2
  refine ⟨max K1 K2, fun k hk => ?_⟩
  show (F k).bind (G k) = some b
  rw [h1 k (by omega)]
  exact h2 k (by omega)
theorem Ev.pos {α : Type} {c : Prop} [Decidable c] {A B : Nat → Option α} {r : α} (h : c) (hA : Ev A r) : Ev (fun k => if c then A k else B k) r := by
  obtain ⟨K, hA⟩ := hA
  exact ⟨K, fun k hk => by show (if c then A k else B k) = some r; rw [if_pos h]; exact hA k hk⟩
theorem Ev.neg {α : Type} {c : Prop} [Decidable c] {A B : Nat → Option α} {r : α} (h : ¬ c) (hB : Ev B r) : Ev (fun k => if c then A k else B k) r := by
  obtain ⟨K, hB⟩ := hB
  exact ⟨K, fun k hk => by show (if c then A k else B k) = some r; rw [if_neg h]; exact hB k hk⟩
theorem Ev.succ {α : Type} {F : Nat → Option α} {r : α} (h : Ev (fun k => F (k + 1)) r) : Ev F r := by
  obtain ⟨K, h⟩ := h
  refine ⟨K + 1, fun k hk => ?_⟩
  obtain ⟨m, rfl⟩ : ∃ m, k = m + 1 := ⟨k - 1, by omega⟩
  exact h m (by omega)
theorem Ev.up {α : Type} {F : Nat → Option α} {r : α} (h : Ev F r) : Ev (fun k => F (k + 1)) r := by
  obtain ⟨K, h⟩ := h
  exact ⟨K, fun k hk => h (k + 1) (by omega)⟩
theorem Ev.to {α : Type} {F : Nat → Option α} {r s : α} (h : Ev F r) (e : r = s) : Ev F s := e ▸ h
theorem nums_str (l : List UInt8) : strOfNums (l.map fun b => (b.toNat : Int)) = ⟨l.toArray⟩ := by
  unfold strOfNums
  have e : (l.map fun b => (b.toNat : Int)).map (fun z => UInt8.ofNat z.toNat) = l := by
    rw [List.map_map]
    conv => rhs; rw [← List.map_id l]
    apply List.map_congr_left
    intro b _
    simp
  exact congrArg (fun x => ByteArray.mk (List.toArray x)) e
theorem wid (x : Int) (h : -9223372036854775808 ≤ x) (h2 : x ≤ 9223372036854775807) : wrap64 x = x := by unfold wrap64; omega
theorem val_ev (c : Int) (h0 : 0 ≤ c) (h1 : c < 256) : Ev (fun k => spec_l01Value.f k c) (valD c) := by
  have rest : ¬ (48 ≤ c ∧ c ≤ 57) → Ev (fun k => spec_l01Value.j0 k c false) (valD c) := by
    intro h
    refine Ev.succ ?_
    simp only [spec_l01Value.j0]
    refine Ev.neg (by simp) ?_
    unfold valD
    rw [if_neg h]
    by_cases a3 : c ≥ 97
    · refine Ev.pos a3 ?_
      by_cases a4 : c ≤ 102
      · refine Ev.pos a4 ((Ev.ret _).to ?_)
        rw [if_pos ⟨a3, a4⟩, wid c (by omega) (by omega), wid (c - 97) (by omega) (by omega), wid _ (by omega) (by omega)]
        omega
      · refine Ev.neg a4 ((Ev.ret _).to ?_)
        rw [if_neg (fun h => a4 h.2)]
    · refine Ev.neg a3 ((Ev.ret _).to ?_)
      rw [if_neg (fun h => a3 h.1)]
  unfold spec_l01Value.f
  by_cases a1 : c ≥ 48
  · refine Ev.pos a1 ?_
    by_cases a2 : c ≤ 57
    · rw [decide_eq_true a2]
      refine Ev.succ ?_
      simp only [spec_l01Value.j0]
      refine Ev.pos trivial ((Ev.ret _).to ?_)
      unfold valD
      rw [if_pos ⟨a1, a2⟩, wid c (by omega) (by omega), wid _ (by omega) (by omega)]
    · rw [decide_eq_false a2]
      exact rest (fun h => a2 h.2)
  · exact Ev.neg a1 (rest (fun h => a1 h.1))
theorem dec_loop (a0 : ByteArray) (hs : a0.size ≤ 40000) (he : a0.size % 2 = 0) : ∀ (m n : Nat) (d : List UInt8), n + 2 * m = a0.size → d.length ≤ n →
    Ev (fun k => spec_DecodeHex.l0 k a0 (d.map fun b => (b.toNat : Int)) (n : Int)) (decR (decA d (a0.data.toList.drop n)))
  | 0, n, d, hn, hd => by
    have hl := data_length a0
    refine Ev.succ ?_
    simp only [spec_DecodeHex.l0]
    refine Ev.neg (by omega) ((Ev.ret _).to ?_)
    rw [List.drop_eq_nil_of_le (by omega), decA, nums_str]
    rfl
  | m + 1, n, d, hn, hd => by
    obtain ⟨a, b, e1, e2, e3⟩ := drop_two a0 n (by omega)
    have va := valD_in (a.toNat : Int)
    have vb := valD_in (b.toNat : Int)
    have ha8 := a.toNat_lt
    have hb8 := b.toNat_lt
    have v1 := val_ev (a.toNat : Int) (by omega) (by omega)
    have v2 := val_ev (b.toNat : Int) (by omega) (by omega)
    rw [e1, decA]
    refine Ev.succ ?_
    simp only [spec_DecodeHex.l0]
    rw [wid ((n : Int) + 1) (by omega) (by omega), wid ((n : Int) + 2) (by omega) (by omega), e2, e3]
    refine Ev.pos (by omega) (Ev.pos (by omega) (Ev.bind v1 (Ev.pos (by omega) (Ev.pos (by omega) (Ev.bind v2 ?_)))))
    by_cases ca : valD (a.toNat : Int) < 0
    · rw [if_pos (Or.inl ca)]
      exact Ev.pos ca (Ev.ret _)
    · refine Ev.neg ca ?_
      by_cases cb : valD (b.toNat : Int) < 0
      · rw [if_pos (Or.inr cb)]
        exact Ev.pos cb (Ev.ret _)
      · rw [if_neg (fun h => h.elim ca cb)]
        refine Ev.neg cb (Ev.pos (by rw [List.length_map]; omega) ?_)
        have ih := dec_loop a0 hs he m (n + 2) (d ++ [UInt8.ofNat (16 * valD (a.toNat : Int) + valD (b.toNat : Int)).toNat]) (by omega) (by simp; omega)
        rw [List.map_append] at ih
        have eb : wrap64 (wrap64 (16 * valD (a.toNat : Int)) + valD (b.toNat : Int)) % 256 = ((UInt8.ofNat (16 * valD (a.toNat : Int) + valD (b.toNat : Int)).toNat).toNat : Int) := by
          rw [wid (16 * _) (by omega) (by omega), wid _ (by omega) (by omega), UInt8.toNat_ofNat']
          omega
        rw [eb]
        exact ih
theorem dec_ev (a0 : ByteArray) (hb : a0.size ≤ 1048576) : Ev (fun k => spec_DecodeHex.f k a0) (if a0.size % 2 = 0 ∧ a0.size ≤ 40000 then decR (decA [] a0.data.toList) else ((⟨#[]⟩ : ByteArray), false)) := by
  unfold spec_DecodeHex.f
  have no : Ev (fun k => spec_DecodeHex.j0 k a0 true) ((⟨#[]⟩ : ByteArray), false) := by
    refine Ev.succ ?_
    simp only [spec_DecodeHex.j0]
    exact Ev.pos trivial (Ev.ret _)
  by_cases c : (a0.size : Int) > 40000
  · rw [if_neg (fun h => by omega)]
    exact Ev.pos c no
  · refine Ev.neg c ?_
    by_cases he : a0.size % 2 = 0
    · rw [if_pos ⟨he, by omega⟩, show ((a0.size : Int) % 2 != 0) = false by simp; omega]
      refine Ev.succ ?_
      simp only [spec_DecodeHex.j0]
      refine Ev.neg (by simp) ?_
      exact dec_loop a0 (by omega) he (a0.size / 2) 0 [] (by omega) (by simp)
    · rw [if_neg (fun h => he h.1), show ((a0.size : Int) % 2 != 0) = true by simp; omega]
      exact no
theorem pureFnExactDecodeHex : ∀ (a0 : ByteArray), ok9 a0 → ∃ k, laws_FnExactDecodeHex.f k a0 = some true := by
  intro a0 _
  refine Ev.get ?_
  unfold laws_FnExactDecodeHex.f
  by_cases c : (a0.size : Int) > 1048576
  · exact Ev.pos c (Ev.ret _)
  · refine Ev.neg c (Ev.bind (dec_ev a0 (by omega)) (Ev.bind (Ev.const (if_neg (by omega))) (Ev.pos rfl (Ev.neg (by simp) (Ev.ret _)))))
end Go.Proofs.Ytfoldjbcnlhipaa.A
