/-
  No cell of these rows narrows 'for every input' (looked for: loops, veiled, ifaces, maps, wideKeys, modest, calm, conditions, laid).
  DERIVED. THE GIVEN ROWS OF THIS SEAT. 12 by the template 'for every input the law returns true; each argument reads behind the call as it read before'; 0 by the template 'total and deterministic' (their statements: YtghfeapncmlihaaTotals.lean).
  GIVEN WITH THE SEED: the statements are not yours to turn. If you find one false, say at which input.
  Laid BY PROGRAM, IN A SANDBOX (cutbox-rows.mjs): the forced cells as the released guide's own fill.sh prints them over the translation 204f967cc9bc678c… (all of the seat's roots in one cut). By AI agents, Wed Nov 11 2026. No macro, syntax, notation, axiom, sorry.
-/
import Derived.Test.YtghfeapncmlihaaChecked
import GoSem.Claim
import GoSem.ClaimJoined
import GoSem.ClaimMapViews
import Derived.JoinedTies
import Derived.KernelRfl
namespace Go.Proofs.Ytghfeapncmlihaa
/- THE CELL 'sum', in the pinned program and in every row, IS THE sha256 OF THE DUMP (.gsa) THAT YtghfeapncmlihaaProg.lean LOADS. Nothing in Lean hashes anything: it is a label: what it is worth is what the hold of that sum in a sandbox is worth. -/
noncomputable def Try.pinned : Pinned := { name := "ytghfeapncmlihaa", sum := "204f967cc9bc678c61fb5ae75622eb7c7b72997e42e98bb531ebcbeb791511c8", checked := Try.checked }
namespace Rows
def none {H : Type} : Left H := { results := [], args := [] }

/-- 'laws.FnExactColumnOk': WHATEVER THE INPUT: true; the input reads as it did. -/
def fnExactColumnOkSpec : ChangeSpec := { name := "fnExactColumnOk", fn := fun _ => fun
  | [d] => { results := [.lit (.bool true)], args := [d] }
  | _ => none }
def fnExactColumnOkRow : OpenClaim := { program := "ytghfeapncmlihaa", sum := "204f967cc9bc678c61fb5ae75622eb7c7b72997e42e98bb531ebcbeb791511c8", func := "loop.example/g03318/laws.FnExactColumnOk", spec := "fnExactColumnOk", apart := false }
def FnExactColumnOkSaid : Prop := fnExactColumnOkRow.holds Try.pinned (OpenSpec.ofChange fnExactColumnOkSpec)

/-- ITS FALSE NEIGHBOUR: 'it returns false'. Refute it at one input. -/
def fnExactColumnOkWrong : ChangeSpec := { name := "fnExactColumnOk", fn := fun _ => fun
  | [d] => { results := [.lit (.bool false)], args := [d] }
  | _ => none }
def FnExactColumnOkWrongFalsely : Prop := fnExactColumnOkRow.holds Try.pinned (OpenSpec.ofChange fnExactColumnOkWrong)

/-- 'laws.FnExactNewColumn': WHATEVER THE INPUT: true; the input reads as it did. -/
def fnExactNewColumnSpec : ChangeSpec := { name := "fnExactNewColumn", fn := fun _ => fun
  | [d1, d2] => { results := [.lit (.bool true)], args := [d1, d2] }
  | _ => none }
def fnExactNewColumnRow : OpenClaim := { program := "ytghfeapncmlihaa", sum := "204f967cc9bc678c61fb5ae75622eb7c7b72997e42e98bb531ebcbeb791511c8", func := "loop.example/g03318/laws.FnExactNewColumn", spec := "fnExactNewColumn", apart := false }
def FnExactNewColumnSaid : Prop := fnExactNewColumnRow.holds Try.pinned (OpenSpec.ofChange fnExactNewColumnSpec)

/-- ITS FALSE NEIGHBOUR: 'it returns false'. Refute it at one input. -/
def fnExactNewColumnWrong : ChangeSpec := { name := "fnExactNewColumn", fn := fun _ => fun
  | [d1, d2] => { results := [.lit (.bool false)], args := [d1, d2] }
  | _ => none }
def FnExactNewColumnWrongFalsely : Prop := fnExactNewColumnRow.holds Try.pinned (OpenSpec.ofChange fnExactNewColumnWrong)

/-- 'laws.FnExactBankOk': WHATEVER THE INPUT: true; the input reads as it did. -/
def fnExactBankOkSpec : ChangeSpec := { name := "fnExactBankOk", fn := fun _ => fun
  | [d] => { results := [.lit (.bool true)], args := [d] }
  | _ => none }
def fnExactBankOkRow : OpenClaim := { program := "ytghfeapncmlihaa", sum := "204f967cc9bc678c61fb5ae75622eb7c7b72997e42e98bb531ebcbeb791511c8", func := "loop.example/g03318/laws.FnExactBankOk", spec := "fnExactBankOk", apart := false }
def FnExactBankOkSaid : Prop := fnExactBankOkRow.holds Try.pinned (OpenSpec.ofChange fnExactBankOkSpec)

/-- ITS FALSE NEIGHBOUR: 'it returns false'. Refute it at one input. -/
def fnExactBankOkWrong : ChangeSpec := { name := "fnExactBankOk", fn := fun _ => fun
  | [d] => { results := [.lit (.bool false)], args := [d] }
  | _ => none }
def FnExactBankOkWrongFalsely : Prop := fnExactBankOkRow.holds Try.pinned (OpenSpec.ofChange fnExactBankOkWrong)

/-- 'laws.FnExactBoxOf': WHATEVER THE INPUT: true; the input reads as it did. -/
def fnExactBoxOfSpec : ChangeSpec := { name := "fnExactBoxOf", fn := fun _ => fun
  | [d1, d2] => { results := [.lit (.bool true)], args := [d1, d2] }
  | _ => none }
def fnExactBoxOfRow : OpenClaim := { program := "ytghfeapncmlihaa", sum := "204f967cc9bc678c61fb5ae75622eb7c7b72997e42e98bb531ebcbeb791511c8", func := "loop.example/g03318/laws.FnExactBoxOf", spec := "fnExactBoxOf", unfollowed := true, recurses := true, apart := false }
def FnExactBoxOfSaid : Prop := fnExactBoxOfRow.holds Try.pinned (OpenSpec.ofChange fnExactBoxOfSpec)

/-- ITS FALSE NEIGHBOUR: 'it returns false'. Refute it at one input. -/
def fnExactBoxOfWrong : ChangeSpec := { name := "fnExactBoxOf", fn := fun _ => fun
  | [d1, d2] => { results := [.lit (.bool false)], args := [d1, d2] }
  | _ => none }
def FnExactBoxOfWrongFalsely : Prop := fnExactBoxOfRow.holds Try.pinned (OpenSpec.ofChange fnExactBoxOfWrong)

/-- 'laws.FnExactSetJam': WHATEVER THE INPUT: true; the input reads as it did. -/
def fnExactSetJamSpec : ChangeSpec := { name := "fnExactSetJam", fn := fun _ => fun
  | [d1, d2, d3] => { results := [.lit (.bool true)], args := [d1, d2, d3] }
  | _ => none }
def fnExactSetJamRow : OpenClaim := { program := "ytghfeapncmlihaa", sum := "204f967cc9bc678c61fb5ae75622eb7c7b72997e42e98bb531ebcbeb791511c8", func := "loop.example/g03318/laws.FnExactSetJam", spec := "fnExactSetJam", apart := false }
def FnExactSetJamSaid : Prop := fnExactSetJamRow.holds Try.pinned (OpenSpec.ofChange fnExactSetJamSpec)

/-- ITS FALSE NEIGHBOUR: 'it returns false'. Refute it at one input. -/
def fnExactSetJamWrong : ChangeSpec := { name := "fnExactSetJam", fn := fun _ => fun
  | [d1, d2, d3] => { results := [.lit (.bool false)], args := [d1, d2, d3] }
  | _ => none }
def FnExactSetJamWrongFalsely : Prop := fnExactSetJamRow.holds Try.pinned (OpenSpec.ofChange fnExactSetJamWrong)

/-- 'laws.FnExactFitOf': WHATEVER THE INPUT: true; the input reads as it did. -/
def fnExactFitOfSpec : ChangeSpec := { name := "fnExactFitOf", fn := fun _ => fun
  | [d1, d2] => { results := [.lit (.bool true)], args := [d1, d2] }
  | _ => none }
def fnExactFitOfRow : OpenClaim := { program := "ytghfeapncmlihaa", sum := "204f967cc9bc678c61fb5ae75622eb7c7b72997e42e98bb531ebcbeb791511c8", func := "loop.example/g03318/laws.FnExactFitOf", spec := "fnExactFitOf", apart := false }
def FnExactFitOfSaid : Prop := fnExactFitOfRow.holds Try.pinned (OpenSpec.ofChange fnExactFitOfSpec)

/-- ITS FALSE NEIGHBOUR: 'it returns false'. Refute it at one input. -/
def fnExactFitOfWrong : ChangeSpec := { name := "fnExactFitOf", fn := fun _ => fun
  | [d1, d2] => { results := [.lit (.bool false)], args := [d1, d2] }
  | _ => none }
def FnExactFitOfWrongFalsely : Prop := fnExactFitOfRow.holds Try.pinned (OpenSpec.ofChange fnExactFitOfWrong)

/-- 'laws.FnExactTakeOut': WHATEVER THE INPUT: true; the input reads as it did. -/
def fnExactTakeOutSpec : ChangeSpec := { name := "fnExactTakeOut", fn := fun _ => fun
  | [d1, d2] => { results := [.lit (.bool true)], args := [d1, d2] }
  | _ => none }
def fnExactTakeOutRow : OpenClaim := { program := "ytghfeapncmlihaa", sum := "204f967cc9bc678c61fb5ae75622eb7c7b72997e42e98bb531ebcbeb791511c8", func := "loop.example/g03318/laws.FnExactTakeOut", spec := "fnExactTakeOut", unfollowed := true, recurses := true, apart := false }
def FnExactTakeOutSaid : Prop := fnExactTakeOutRow.holds Try.pinned (OpenSpec.ofChange fnExactTakeOutSpec)

/-- ITS FALSE NEIGHBOUR: 'it returns false'. Refute it at one input. -/
def fnExactTakeOutWrong : ChangeSpec := { name := "fnExactTakeOut", fn := fun _ => fun
  | [d1, d2] => { results := [.lit (.bool false)], args := [d1, d2] }
  | _ => none }
def FnExactTakeOutWrongFalsely : Prop := fnExactTakeOutRow.holds Try.pinned (OpenSpec.ofChange fnExactTakeOutWrong)

/-- 'laws.FnExactGapsOf': WHATEVER THE INPUT: true; the input reads as it did. -/
def fnExactGapsOfSpec : ChangeSpec := { name := "fnExactGapsOf", fn := fun _ => fun
  | [d] => { results := [.lit (.bool true)], args := [d] }
  | _ => none }
def fnExactGapsOfRow : OpenClaim := { program := "ytghfeapncmlihaa", sum := "204f967cc9bc678c61fb5ae75622eb7c7b72997e42e98bb531ebcbeb791511c8", func := "loop.example/g03318/laws.FnExactGapsOf", spec := "fnExactGapsOf", apart := false }
def FnExactGapsOfSaid : Prop := fnExactGapsOfRow.holds Try.pinned (OpenSpec.ofChange fnExactGapsOfSpec)

/-- ITS FALSE NEIGHBOUR: 'it returns false'. Refute it at one input. -/
def fnExactGapsOfWrong : ChangeSpec := { name := "fnExactGapsOf", fn := fun _ => fun
  | [d] => { results := [.lit (.bool false)], args := [d] }
  | _ => none }
def FnExactGapsOfWrongFalsely : Prop := fnExactGapsOfRow.holds Try.pinned (OpenSpec.ofChange fnExactGapsOfWrong)

/-- 'laws.FnExactMostOf': WHATEVER THE INPUT: true; the input reads as it did. -/
def fnExactMostOfSpec : ChangeSpec := { name := "fnExactMostOf", fn := fun _ => fun
  | [d1, d2] => { results := [.lit (.bool true)], args := [d1, d2] }
  | _ => none }
def fnExactMostOfRow : OpenClaim := { program := "ytghfeapncmlihaa", sum := "204f967cc9bc678c61fb5ae75622eb7c7b72997e42e98bb531ebcbeb791511c8", func := "loop.example/g03318/laws.FnExactMostOf", spec := "fnExactMostOf", apart := false }
def FnExactMostOfSaid : Prop := fnExactMostOfRow.holds Try.pinned (OpenSpec.ofChange fnExactMostOfSpec)

/-- ITS FALSE NEIGHBOUR: 'it returns false'. Refute it at one input. -/
def fnExactMostOfWrong : ChangeSpec := { name := "fnExactMostOf", fn := fun _ => fun
  | [d1, d2] => { results := [.lit (.bool false)], args := [d1, d2] }
  | _ => none }
def FnExactMostOfWrongFalsely : Prop := fnExactMostOfRow.holds Try.pinned (OpenSpec.ofChange fnExactMostOfWrong)

/-- 'laws.FnExactBankFit': WHATEVER THE INPUT: true; the input reads as it did. -/
def fnExactBankFitSpec : ChangeSpec := { name := "fnExactBankFit", fn := fun _ => fun
  | [d1, d2] => { results := [.lit (.bool true)], args := [d1, d2] }
  | _ => none }
def fnExactBankFitRow : OpenClaim := { program := "ytghfeapncmlihaa", sum := "204f967cc9bc678c61fb5ae75622eb7c7b72997e42e98bb531ebcbeb791511c8", func := "loop.example/g03318/laws.FnExactBankFit", spec := "fnExactBankFit", apart := false }
def FnExactBankFitSaid : Prop := fnExactBankFitRow.holds Try.pinned (OpenSpec.ofChange fnExactBankFitSpec)

/-- ITS FALSE NEIGHBOUR: 'it returns false'. Refute it at one input. -/
def fnExactBankFitWrong : ChangeSpec := { name := "fnExactBankFit", fn := fun _ => fun
  | [d1, d2] => { results := [.lit (.bool false)], args := [d1, d2] }
  | _ => none }
def FnExactBankFitWrongFalsely : Prop := fnExactBankFitRow.holds Try.pinned (OpenSpec.ofChange fnExactBankFitWrong)

/-- 'laws.FnExactCleared': WHATEVER THE INPUT: true; the input reads as it did. -/
def fnExactClearedSpec : ChangeSpec := { name := "fnExactCleared", fn := fun _ => fun
  | [d] => { results := [.lit (.bool true)], args := [d] }
  | _ => none }
def fnExactClearedRow : OpenClaim := { program := "ytghfeapncmlihaa", sum := "204f967cc9bc678c61fb5ae75622eb7c7b72997e42e98bb531ebcbeb791511c8", func := "loop.example/g03318/laws.FnExactCleared", spec := "fnExactCleared", apart := false }
def FnExactClearedSaid : Prop := fnExactClearedRow.holds Try.pinned (OpenSpec.ofChange fnExactClearedSpec)

/-- ITS FALSE NEIGHBOUR: 'it returns false'. Refute it at one input. -/
def fnExactClearedWrong : ChangeSpec := { name := "fnExactCleared", fn := fun _ => fun
  | [d] => { results := [.lit (.bool false)], args := [d] }
  | _ => none }
def FnExactClearedWrongFalsely : Prop := fnExactClearedRow.holds Try.pinned (OpenSpec.ofChange fnExactClearedWrong)

/-- 'laws.FnGaps': WHATEVER THE INPUT: true; the input reads as it did. -/
def fnGapsSpec : ChangeSpec := { name := "fnGaps", fn := fun _ => fun
  | [d] => { results := [.lit (.bool true)], args := [d] }
  | _ => none }
def fnGapsRow : OpenClaim := { program := "ytghfeapncmlihaa", sum := "204f967cc9bc678c61fb5ae75622eb7c7b72997e42e98bb531ebcbeb791511c8", func := "loop.example/g03318/laws.FnGaps", spec := "fnGaps", apart := false }
def FnGapsSaid : Prop := fnGapsRow.holds Try.pinned (OpenSpec.ofChange fnGapsSpec)

/-- ITS FALSE NEIGHBOUR: 'it returns false'. Refute it at one input. -/
def fnGapsWrong : ChangeSpec := { name := "fnGaps", fn := fun _ => fun
  | [d] => { results := [.lit (.bool false)], args := [d] }
  | _ => none }
def FnGapsWrongFalsely : Prop := fnGapsRow.holds Try.pinned (OpenSpec.ofChange fnGapsWrong)

/- THE SECOND FORM. 'bulk': how many values and letters a reading holds, each counted each time it is reached (what is shared counts as often as it is met; a slice's spare places count too). A statement '..UptoSaid' is the law's where the arguments, and the package variables that the reading takes, are together of bulk at most 1048576: NARROWER than '..Said'. Prove '..Said' where nothing that the law and all that it calls make is longer than what came in: it says more and counts as full. Else prove '..UptoSaid'. A law counts once. -/
mutual
def uptoBulk {H : Type} : DataW H → Nat
  | .lit (.string bytes) => bytes.length + 1
  | .lit _ => 1
  | .nil => 1
  | .ptr d => uptoBulk d + 1
  | .slice elems spare => uptoBulkAll elems + uptoBulkAll spare + 1
  | .agg parts => uptoBulkAll parts + 1
  | .iface _ d => uptoBulk d + 1
  | .map entries => uptoBulkEntries entries + 1
  | .held _ => 1
def uptoBulkAll {H : Type} : List (DataW H) → Nat
  | [] => 0
  | d :: r => uptoBulk d + uptoBulkAll r
def uptoBulkEntries {H : Type} : List (Lit × DataW H) → Nat
  | [] => 0
  | x :: r => uptoBulkEntry x + uptoBulkEntries r
def uptoBulkEntry {H : Type} : Lit × DataW H → Nat
  | (.string bytes, d) => bytes.length + uptoBulk d + 1
  | (_, d) => uptoBulk d + 1
 end
def uptoSmall : (H : Type) → List (DataW H) → Bool := fun _ ds => decide (uptoBulkAll ds ≤ 1048576)
def OpenSpec.upto (s : _root_.Go.ChangeSpec) : _root_.Go.OpenSpec := { _root_.Go.OpenSpec.ofChange s with cond := some uptoSmall }

/-- 'laws.FnExactColumnOk', WHERE WHAT IT READS IS OF BULK AT MOST 1048576: true; the input reads as it did. -/
def fnExactColumnOkUptoRow : OpenClaim := { program := "ytghfeapncmlihaa", sum := "204f967cc9bc678c61fb5ae75622eb7c7b72997e42e98bb531ebcbeb791511c8", func := "loop.example/g03318/laws.FnExactColumnOk", spec := "fnExactColumnOk", apart := false, narrowed := true }
def FnExactColumnOkUptoSaid : Prop := fnExactColumnOkUptoRow.holds Try.pinned (OpenSpec.upto fnExactColumnOkSpec)

/-- 'laws.FnExactNewColumn', WHERE WHAT IT READS IS OF BULK AT MOST 1048576: true; the input reads as it did. -/
def fnExactNewColumnUptoRow : OpenClaim := { program := "ytghfeapncmlihaa", sum := "204f967cc9bc678c61fb5ae75622eb7c7b72997e42e98bb531ebcbeb791511c8", func := "loop.example/g03318/laws.FnExactNewColumn", spec := "fnExactNewColumn", apart := false, narrowed := true }
def FnExactNewColumnUptoSaid : Prop := fnExactNewColumnUptoRow.holds Try.pinned (OpenSpec.upto fnExactNewColumnSpec)

/-- 'laws.FnExactBankOk', WHERE WHAT IT READS IS OF BULK AT MOST 1048576: true; the input reads as it did. -/
def fnExactBankOkUptoRow : OpenClaim := { program := "ytghfeapncmlihaa", sum := "204f967cc9bc678c61fb5ae75622eb7c7b72997e42e98bb531ebcbeb791511c8", func := "loop.example/g03318/laws.FnExactBankOk", spec := "fnExactBankOk", apart := false, narrowed := true }
def FnExactBankOkUptoSaid : Prop := fnExactBankOkUptoRow.holds Try.pinned (OpenSpec.upto fnExactBankOkSpec)

/-- 'laws.FnExactBoxOf', WHERE WHAT IT READS IS OF BULK AT MOST 1048576: true; the input reads as it did. -/
def fnExactBoxOfUptoRow : OpenClaim := { program := "ytghfeapncmlihaa", sum := "204f967cc9bc678c61fb5ae75622eb7c7b72997e42e98bb531ebcbeb791511c8", func := "loop.example/g03318/laws.FnExactBoxOf", spec := "fnExactBoxOf", unfollowed := true, recurses := true, apart := false, narrowed := true }
def FnExactBoxOfUptoSaid : Prop := fnExactBoxOfUptoRow.holds Try.pinned (OpenSpec.upto fnExactBoxOfSpec)

/-- 'laws.FnExactSetJam', WHERE WHAT IT READS IS OF BULK AT MOST 1048576: true; the input reads as it did. -/
def fnExactSetJamUptoRow : OpenClaim := { program := "ytghfeapncmlihaa", sum := "204f967cc9bc678c61fb5ae75622eb7c7b72997e42e98bb531ebcbeb791511c8", func := "loop.example/g03318/laws.FnExactSetJam", spec := "fnExactSetJam", apart := false, narrowed := true }
def FnExactSetJamUptoSaid : Prop := fnExactSetJamUptoRow.holds Try.pinned (OpenSpec.upto fnExactSetJamSpec)

/-- 'laws.FnExactFitOf', WHERE WHAT IT READS IS OF BULK AT MOST 1048576: true; the input reads as it did. -/
def fnExactFitOfUptoRow : OpenClaim := { program := "ytghfeapncmlihaa", sum := "204f967cc9bc678c61fb5ae75622eb7c7b72997e42e98bb531ebcbeb791511c8", func := "loop.example/g03318/laws.FnExactFitOf", spec := "fnExactFitOf", apart := false, narrowed := true }
def FnExactFitOfUptoSaid : Prop := fnExactFitOfUptoRow.holds Try.pinned (OpenSpec.upto fnExactFitOfSpec)

/-- 'laws.FnExactTakeOut', WHERE WHAT IT READS IS OF BULK AT MOST 1048576: true; the input reads as it did. -/
def fnExactTakeOutUptoRow : OpenClaim := { program := "ytghfeapncmlihaa", sum := "204f967cc9bc678c61fb5ae75622eb7c7b72997e42e98bb531ebcbeb791511c8", func := "loop.example/g03318/laws.FnExactTakeOut", spec := "fnExactTakeOut", unfollowed := true, recurses := true, apart := false, narrowed := true }
def FnExactTakeOutUptoSaid : Prop := fnExactTakeOutUptoRow.holds Try.pinned (OpenSpec.upto fnExactTakeOutSpec)

/-- 'laws.FnExactGapsOf', WHERE WHAT IT READS IS OF BULK AT MOST 1048576: true; the input reads as it did. -/
def fnExactGapsOfUptoRow : OpenClaim := { program := "ytghfeapncmlihaa", sum := "204f967cc9bc678c61fb5ae75622eb7c7b72997e42e98bb531ebcbeb791511c8", func := "loop.example/g03318/laws.FnExactGapsOf", spec := "fnExactGapsOf", apart := false, narrowed := true }
def FnExactGapsOfUptoSaid : Prop := fnExactGapsOfUptoRow.holds Try.pinned (OpenSpec.upto fnExactGapsOfSpec)

/-- 'laws.FnExactMostOf', WHERE WHAT IT READS IS OF BULK AT MOST 1048576: true; the input reads as it did. -/
def fnExactMostOfUptoRow : OpenClaim := { program := "ytghfeapncmlihaa", sum := "204f967cc9bc678c61fb5ae75622eb7c7b72997e42e98bb531ebcbeb791511c8", func := "loop.example/g03318/laws.FnExactMostOf", spec := "fnExactMostOf", apart := false, narrowed := true }
def FnExactMostOfUptoSaid : Prop := fnExactMostOfUptoRow.holds Try.pinned (OpenSpec.upto fnExactMostOfSpec)

/-- 'laws.FnExactBankFit', WHERE WHAT IT READS IS OF BULK AT MOST 1048576: true; the input reads as it did. -/
def fnExactBankFitUptoRow : OpenClaim := { program := "ytghfeapncmlihaa", sum := "204f967cc9bc678c61fb5ae75622eb7c7b72997e42e98bb531ebcbeb791511c8", func := "loop.example/g03318/laws.FnExactBankFit", spec := "fnExactBankFit", apart := false, narrowed := true }
def FnExactBankFitUptoSaid : Prop := fnExactBankFitUptoRow.holds Try.pinned (OpenSpec.upto fnExactBankFitSpec)

/-- 'laws.FnExactCleared', WHERE WHAT IT READS IS OF BULK AT MOST 1048576: true; the input reads as it did. -/
def fnExactClearedUptoRow : OpenClaim := { program := "ytghfeapncmlihaa", sum := "204f967cc9bc678c61fb5ae75622eb7c7b72997e42e98bb531ebcbeb791511c8", func := "loop.example/g03318/laws.FnExactCleared", spec := "fnExactCleared", apart := false, narrowed := true }
def FnExactClearedUptoSaid : Prop := fnExactClearedUptoRow.holds Try.pinned (OpenSpec.upto fnExactClearedSpec)

/-- 'laws.FnGaps', WHERE WHAT IT READS IS OF BULK AT MOST 1048576: true; the input reads as it did. -/
def fnGapsUptoRow : OpenClaim := { program := "ytghfeapncmlihaa", sum := "204f967cc9bc678c61fb5ae75622eb7c7b72997e42e98bb531ebcbeb791511c8", func := "loop.example/g03318/laws.FnGaps", spec := "fnGaps", apart := false, narrowed := true }
def FnGapsUptoSaid : Prop := fnGapsUptoRow.holds Try.pinned (OpenSpec.upto fnGapsSpec)

end Rows
end Go.Proofs.Ytghfeapncmlihaa
