/-
  No cell of these rows narrows 'for every input' (looked for: loops, veiled, ifaces, maps, wideKeys, modest, calm, conditions, laid).
  DERIVED. THE GIVEN ROWS OF THIS SEAT. 7 by the template 'for every input the law returns true; each argument reads behind the call as it read before'; 0 by the template 'total and deterministic' (their statements: YtpcgefkjeicmlaaTotals.lean).
  GIVEN WITH THE SEED: the statements are not yours to turn. If you find one false, say at which input.
  Laid BY PROGRAM, IN A SANDBOX (cutbox-rows.mjs): the forced cells as the released guide's own fill.sh prints them over the translation af9b0961cb010b45… (all of the seat's roots in one cut). By AI agents, Wed Nov 11 2026. No macro, syntax, notation, axiom, sorry.
-/
import Derived.Test.YtpcgefkjeicmlaaChecked
import GoSem.Claim
import GoSem.ClaimJoined
import GoSem.ClaimMapViews
import Derived.JoinedTies
import Derived.KernelRfl
namespace Go.Proofs.Ytpcgefkjeicmlaa
/- THE CELL 'sum', in the pinned program and in every row, IS THE sha256 OF THE DUMP (.gsa) THAT YtpcgefkjeicmlaaProg.lean LOADS. Nothing in Lean hashes anything: it is a label: what it is worth is what the hold of that sum in a sandbox is worth. -/
noncomputable def Try.pinned : Pinned := { name := "ytpcgefkjeicmlaa", sum := "af9b0961cb010b45434c28bc9618443a0ac7d6cd2337980829e4a8fca68819ee", checked := Try.checked }
namespace Rows
def none {H : Type} : Left H := { results := [], args := [] }

/-- 'laws.FnExactWeekOk': WHATEVER THE INPUT: true; the input reads as it did. -/
def fnExactWeekOkSpec : ChangeSpec := { name := "fnExactWeekOk", fn := fun _ => fun
  | [d] => { results := [.lit (.bool true)], args := [d] }
  | _ => none }
def fnExactWeekOkRow : OpenClaim := { program := "ytpcgefkjeicmlaa", sum := "af9b0961cb010b45434c28bc9618443a0ac7d6cd2337980829e4a8fca68819ee", func := "loop.example/g03318/laws.FnExactWeekOk", spec := "fnExactWeekOk", apart := false }
def FnExactWeekOkSaid : Prop := fnExactWeekOkRow.holds Try.pinned (OpenSpec.ofChange fnExactWeekOkSpec)

/-- ITS FALSE NEIGHBOUR: 'it returns false'. Refute it at one input. -/
def fnExactWeekOkWrong : ChangeSpec := { name := "fnExactWeekOk", fn := fun _ => fun
  | [d] => { results := [.lit (.bool false)], args := [d] }
  | _ => none }
def FnExactWeekOkWrongFalsely : Prop := fnExactWeekOkRow.holds Try.pinned (OpenSpec.ofChange fnExactWeekOkWrong)

/-- 'laws.FnOpenHours': WHATEVER THE INPUT: true; the input reads as it did. -/
def fnOpenHoursSpec : ChangeSpec := { name := "fnOpenHours", fn := fun _ => fun
  | [d] => { results := [.lit (.bool true)], args := [d] }
  | _ => none }
def fnOpenHoursRow : OpenClaim := { program := "ytpcgefkjeicmlaa", sum := "af9b0961cb010b45434c28bc9618443a0ac7d6cd2337980829e4a8fca68819ee", func := "loop.example/g03318/laws.FnOpenHours", spec := "fnOpenHours", apart := false }
def FnOpenHoursSaid : Prop := fnOpenHoursRow.holds Try.pinned (OpenSpec.ofChange fnOpenHoursSpec)

/-- ITS FALSE NEIGHBOUR: 'it returns false'. Refute it at one input. -/
def fnOpenHoursWrong : ChangeSpec := { name := "fnOpenHours", fn := fun _ => fun
  | [d] => { results := [.lit (.bool false)], args := [d] }
  | _ => none }
def FnOpenHoursWrongFalsely : Prop := fnOpenHoursRow.holds Try.pinned (OpenSpec.ofChange fnOpenHoursWrong)

/-- 'laws.FnExactIsOpen': WHATEVER THE INPUT: true; the input reads as it did. -/
def fnExactIsOpenSpec : ChangeSpec := { name := "fnExactIsOpen", fn := fun _ => fun
  | [d1, d2] => { results := [.lit (.bool true)], args := [d1, d2] }
  | _ => none }
def fnExactIsOpenRow : OpenClaim := { program := "ytpcgefkjeicmlaa", sum := "af9b0961cb010b45434c28bc9618443a0ac7d6cd2337980829e4a8fca68819ee", func := "loop.example/g03318/laws.FnExactIsOpen", spec := "fnExactIsOpen", apart := false }
def FnExactIsOpenSaid : Prop := fnExactIsOpenRow.holds Try.pinned (OpenSpec.ofChange fnExactIsOpenSpec)

/-- ITS FALSE NEIGHBOUR: 'it returns false'. Refute it at one input. -/
def fnExactIsOpenWrong : ChangeSpec := { name := "fnExactIsOpen", fn := fun _ => fun
  | [d1, d2] => { results := [.lit (.bool false)], args := [d1, d2] }
  | _ => none }
def FnExactIsOpenWrongFalsely : Prop := fnExactIsOpenRow.holds Try.pinned (OpenSpec.ofChange fnExactIsOpenWrong)

/-- 'laws.FnAfterOpen': WHATEVER THE INPUT: true; the input reads as it did. -/
def fnAfterOpenSpec : ChangeSpec := { name := "fnAfterOpen", fn := fun _ => fun
  | [d] => { results := [.lit (.bool true)], args := [d] }
  | _ => none }
def fnAfterOpenRow : OpenClaim := { program := "ytpcgefkjeicmlaa", sum := "af9b0961cb010b45434c28bc9618443a0ac7d6cd2337980829e4a8fca68819ee", func := "loop.example/g03318/laws.FnAfterOpen", spec := "fnAfterOpen", apart := false }
def FnAfterOpenSaid : Prop := fnAfterOpenRow.holds Try.pinned (OpenSpec.ofChange fnAfterOpenSpec)

/-- ITS FALSE NEIGHBOUR: 'it returns false'. Refute it at one input. -/
def fnAfterOpenWrong : ChangeSpec := { name := "fnAfterOpen", fn := fun _ => fun
  | [d] => { results := [.lit (.bool false)], args := [d] }
  | _ => none }
def FnAfterOpenWrongFalsely : Prop := fnAfterOpenRow.holds Try.pinned (OpenSpec.ofChange fnAfterOpenWrong)

/-- 'laws.FnExactOpenHours': WHATEVER THE INPUT: true; the input reads as it did. -/
def fnExactOpenHoursSpec : ChangeSpec := { name := "fnExactOpenHours", fn := fun _ => fun
  | [d1, d2, d3] => { results := [.lit (.bool true)], args := [d1, d2, d3] }
  | _ => none }
def fnExactOpenHoursRow : OpenClaim := { program := "ytpcgefkjeicmlaa", sum := "af9b0961cb010b45434c28bc9618443a0ac7d6cd2337980829e4a8fca68819ee", func := "loop.example/g03318/laws.FnExactOpenHours", spec := "fnExactOpenHours", apart := false }
def FnExactOpenHoursSaid : Prop := fnExactOpenHoursRow.holds Try.pinned (OpenSpec.ofChange fnExactOpenHoursSpec)

/-- ITS FALSE NEIGHBOUR: 'it returns false'. Refute it at one input. -/
def fnExactOpenHoursWrong : ChangeSpec := { name := "fnExactOpenHours", fn := fun _ => fun
  | [d1, d2, d3] => { results := [.lit (.bool false)], args := [d1, d2, d3] }
  | _ => none }
def FnExactOpenHoursWrongFalsely : Prop := fnExactOpenHoursRow.holds Try.pinned (OpenSpec.ofChange fnExactOpenHoursWrong)

/-- 'laws.FnExactAfterOpen': WHATEVER THE INPUT: true; the input reads as it did. -/
def fnExactAfterOpenSpec : ChangeSpec := { name := "fnExactAfterOpen", fn := fun _ => fun
  | [d1, d2, d3] => { results := [.lit (.bool true)], args := [d1, d2, d3] }
  | _ => none }
def fnExactAfterOpenRow : OpenClaim := { program := "ytpcgefkjeicmlaa", sum := "af9b0961cb010b45434c28bc9618443a0ac7d6cd2337980829e4a8fca68819ee", func := "loop.example/g03318/laws.FnExactAfterOpen", spec := "fnExactAfterOpen", apart := false }
def FnExactAfterOpenSaid : Prop := fnExactAfterOpenRow.holds Try.pinned (OpenSpec.ofChange fnExactAfterOpenSpec)

/-- ITS FALSE NEIGHBOUR: 'it returns false'. Refute it at one input. -/
def fnExactAfterOpenWrong : ChangeSpec := { name := "fnExactAfterOpen", fn := fun _ => fun
  | [d1, d2, d3] => { results := [.lit (.bool false)], args := [d1, d2, d3] }
  | _ => none }
def FnExactAfterOpenWrongFalsely : Prop := fnExactAfterOpenRow.holds Try.pinned (OpenSpec.ofChange fnExactAfterOpenWrong)

/-- 'laws.FnExactBeforeOpen': WHATEVER THE INPUT: true; the input reads as it did. -/
def fnExactBeforeOpenSpec : ChangeSpec := { name := "fnExactBeforeOpen", fn := fun _ => fun
  | [d1, d2, d3] => { results := [.lit (.bool true)], args := [d1, d2, d3] }
  | _ => none }
def fnExactBeforeOpenRow : OpenClaim := { program := "ytpcgefkjeicmlaa", sum := "af9b0961cb010b45434c28bc9618443a0ac7d6cd2337980829e4a8fca68819ee", func := "loop.example/g03318/laws.FnExactBeforeOpen", spec := "fnExactBeforeOpen", apart := false }
def FnExactBeforeOpenSaid : Prop := fnExactBeforeOpenRow.holds Try.pinned (OpenSpec.ofChange fnExactBeforeOpenSpec)

/-- ITS FALSE NEIGHBOUR: 'it returns false'. Refute it at one input. -/
def fnExactBeforeOpenWrong : ChangeSpec := { name := "fnExactBeforeOpen", fn := fun _ => fun
  | [d1, d2, d3] => { results := [.lit (.bool false)], args := [d1, d2, d3] }
  | _ => none }
def FnExactBeforeOpenWrongFalsely : Prop := fnExactBeforeOpenRow.holds Try.pinned (OpenSpec.ofChange fnExactBeforeOpenWrong)

/- THE SECOND FORM. 'bulk': how many values and letters a reading holds, each counted each time it is reached (what is shared counts as often as it is met; a slice's spare places count too). A statement '..UptoSaid' is the law's where the arguments, and the package variables that the reading takes, are together of bulk at most 1048576: NARROWER than '..Said'. Prove '..Said' where nothing that the law and all that it calls make is longer than what came in: it says more and counts as full. Else prove '..UptoSaid'. A law counts once. -/
mutual
def uptoBulk {H : Type} : DataW H → Nat
  | .lit (.string bytes) => bytes.length + 1
  | .lit _ => 1
  | .nil => 1
  | .ptr d => uptoBulk d + 1
  | .slice elems spare => uptoBulkAll elems + uptoBulkAll spare + 1
  | .agg parts => uptoBulkAll parts + 1
  | .iface _ d => uptoBulk d + 1
  | .map entries => uptoBulkEntries entries + 1
  | .held _ => 1
def uptoBulkAll {H : Type} : List (DataW H) → Nat
  | [] => 0
  | d :: r => uptoBulk d + uptoBulkAll r
def uptoBulkEntries {H : Type} : List (Lit × DataW H) → Nat
  | [] => 0
  | x :: r => uptoBulkEntry x + uptoBulkEntries r
def uptoBulkEntry {H : Type} : Lit × DataW H → Nat
  | (.string bytes, d) => bytes.length + uptoBulk d + 1
  | (_, d) => uptoBulk d + 1
 end
def uptoSmall : (H : Type) → List (DataW H) → Bool := fun _ ds => decide (uptoBulkAll ds ≤ 1048576)
def OpenSpec.upto (s : _root_.Go.ChangeSpec) : _root_.Go.OpenSpec := { _root_.Go.OpenSpec.ofChange s with cond := some uptoSmall }

/-- 'laws.FnExactWeekOk', WHERE WHAT IT READS IS OF BULK AT MOST 1048576: true; the input reads as it did. -/
def fnExactWeekOkUptoRow : OpenClaim := { program := "ytpcgefkjeicmlaa", sum := "af9b0961cb010b45434c28bc9618443a0ac7d6cd2337980829e4a8fca68819ee", func := "loop.example/g03318/laws.FnExactWeekOk", spec := "fnExactWeekOk", apart := false, narrowed := true }
def FnExactWeekOkUptoSaid : Prop := fnExactWeekOkUptoRow.holds Try.pinned (OpenSpec.upto fnExactWeekOkSpec)

/-- 'laws.FnOpenHours', WHERE WHAT IT READS IS OF BULK AT MOST 1048576: true; the input reads as it did. -/
def fnOpenHoursUptoRow : OpenClaim := { program := "ytpcgefkjeicmlaa", sum := "af9b0961cb010b45434c28bc9618443a0ac7d6cd2337980829e4a8fca68819ee", func := "loop.example/g03318/laws.FnOpenHours", spec := "fnOpenHours", apart := false, narrowed := true }
def FnOpenHoursUptoSaid : Prop := fnOpenHoursUptoRow.holds Try.pinned (OpenSpec.upto fnOpenHoursSpec)

/-- 'laws.FnExactIsOpen', WHERE WHAT IT READS IS OF BULK AT MOST 1048576: true; the input reads as it did. -/
def fnExactIsOpenUptoRow : OpenClaim := { program := "ytpcgefkjeicmlaa", sum := "af9b0961cb010b45434c28bc9618443a0ac7d6cd2337980829e4a8fca68819ee", func := "loop.example/g03318/laws.FnExactIsOpen", spec := "fnExactIsOpen", apart := false, narrowed := true }
def FnExactIsOpenUptoSaid : Prop := fnExactIsOpenUptoRow.holds Try.pinned (OpenSpec.upto fnExactIsOpenSpec)

/-- 'laws.FnAfterOpen', WHERE WHAT IT READS IS OF BULK AT MOST 1048576: true; the input reads as it did. -/
def fnAfterOpenUptoRow : OpenClaim := { program := "ytpcgefkjeicmlaa", sum := "af9b0961cb010b45434c28bc9618443a0ac7d6cd2337980829e4a8fca68819ee", func := "loop.example/g03318/laws.FnAfterOpen", spec := "fnAfterOpen", apart := false, narrowed := true }
def FnAfterOpenUptoSaid : Prop := fnAfterOpenUptoRow.holds Try.pinned (OpenSpec.upto fnAfterOpenSpec)

/-- 'laws.FnExactOpenHours', WHERE WHAT IT READS IS OF BULK AT MOST 1048576: true; the input reads as it did. -/
def fnExactOpenHoursUptoRow : OpenClaim := { program := "ytpcgefkjeicmlaa", sum := "af9b0961cb010b45434c28bc9618443a0ac7d6cd2337980829e4a8fca68819ee", func := "loop.example/g03318/laws.FnExactOpenHours", spec := "fnExactOpenHours", apart := false, narrowed := true }
def FnExactOpenHoursUptoSaid : Prop := fnExactOpenHoursUptoRow.holds Try.pinned (OpenSpec.upto fnExactOpenHoursSpec)

/-- 'laws.FnExactAfterOpen', WHERE WHAT IT READS IS OF BULK AT MOST 1048576: true; the input reads as it did. -/
def fnExactAfterOpenUptoRow : OpenClaim := { program := "ytpcgefkjeicmlaa", sum := "af9b0961cb010b45434c28bc9618443a0ac7d6cd2337980829e4a8fca68819ee", func := "loop.example/g03318/laws.FnExactAfterOpen", spec := "fnExactAfterOpen", apart := false, narrowed := true }
def FnExactAfterOpenUptoSaid : Prop := fnExactAfterOpenUptoRow.holds Try.pinned (OpenSpec.upto fnExactAfterOpenSpec)

/-- 'laws.FnExactBeforeOpen', WHERE WHAT IT READS IS OF BULK AT MOST 1048576: true; the input reads as it did. -/
def fnExactBeforeOpenUptoRow : OpenClaim := { program := "ytpcgefkjeicmlaa", sum := "af9b0961cb010b45434c28bc9618443a0ac7d6cd2337980829e4a8fca68819ee", func := "loop.example/g03318/laws.FnExactBeforeOpen", spec := "fnExactBeforeOpen", apart := false, narrowed := true }
def FnExactBeforeOpenUptoSaid : Prop := fnExactBeforeOpenUptoRow.holds Try.pinned (OpenSpec.upto fnExactBeforeOpenSpec)

end Rows
end Go.Proofs.Ytpcgefkjeicmlaa
