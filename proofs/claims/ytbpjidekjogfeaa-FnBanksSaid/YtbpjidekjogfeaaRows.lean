/-
  No cell of these rows narrows 'for every input' (looked for: loops, veiled, ifaces, maps, wideKeys, modest, calm, conditions, laid).
  DERIVED. THE GIVEN ROWS OF THIS SEAT. 12 by the template 'for every input the law returns true; each argument reads behind the call as it read before'; 0 by the template 'total and deterministic' (their statements: YtbpjidekjogfeaaTotals.lean).
  GIVEN WITH THE SEED: the statements are not yours to turn. If you find one false, say at which input.
  Laid BY PROGRAM, IN A SANDBOX (cutbox-rows.mjs): the forced cells as the released guide's own fill.sh prints them over the translation dd981ab6ed6d4774… (all of the seat's roots in one cut). By AI agents, Wed Nov 11 2026. No macro, syntax, notation, axiom, sorry.
-/
import Derived.Test.YtbpjidekjogfeaaChecked
import GoSem.Claim
import GoSem.ClaimJoined
import GoSem.ClaimMapViews
import Derived.JoinedTies
import Derived.KernelRfl
namespace Go.Proofs.Ytbpjidekjogfeaa
/- THE CELL 'sum', in the pinned program and in every row, IS THE sha256 OF THE DUMP (.gsa) THAT YtbpjidekjogfeaaProg.lean LOADS. Nothing in Lean hashes anything: it is a label: what it is worth is what the hold of that sum in a sandbox is worth. -/
noncomputable def Try.pinned : Pinned := { name := "ytbpjidekjogfeaa", sum := "dd981ab6ed6d4774796f62c2900ad66952a5b9eaedbd1dc56652c3370072b83a", checked := Try.checked }
namespace Rows
def none {H : Type} : Left H := { results := [], args := [] }

/-- 'laws.FnExactBankGaps': WHATEVER THE INPUT: true; the input reads as it did. -/
def fnExactBankGapsSpec : ChangeSpec := { name := "fnExactBankGaps", fn := fun _ => fun
  | [d] => { results := [.lit (.bool true)], args := [d] }
  | _ => none }
def fnExactBankGapsRow : OpenClaim := { program := "ytbpjidekjogfeaa", sum := "dd981ab6ed6d4774796f62c2900ad66952a5b9eaedbd1dc56652c3370072b83a", func := "loop.example/g03318/laws.FnExactBankGaps", spec := "fnExactBankGaps", apart := false }
def FnExactBankGapsSaid : Prop := fnExactBankGapsRow.holds Try.pinned (OpenSpec.ofChange fnExactBankGapsSpec)

/-- ITS FALSE NEIGHBOUR: 'it returns false'. Refute it at one input. -/
def fnExactBankGapsWrong : ChangeSpec := { name := "fnExactBankGaps", fn := fun _ => fun
  | [d] => { results := [.lit (.bool false)], args := [d] }
  | _ => none }
def FnExactBankGapsWrongFalsely : Prop := fnExactBankGapsRow.holds Try.pinned (OpenSpec.ofChange fnExactBankGapsWrong)

/-- 'laws.FnExactBankTake': WHATEVER THE INPUT: true; the input reads as it did. -/
def fnExactBankTakeSpec : ChangeSpec := { name := "fnExactBankTake", fn := fun _ => fun
  | [d1, d2] => { results := [.lit (.bool true)], args := [d1, d2] }
  | _ => none }
def fnExactBankTakeRow : OpenClaim := { program := "ytbpjidekjogfeaa", sum := "dd981ab6ed6d4774796f62c2900ad66952a5b9eaedbd1dc56652c3370072b83a", func := "loop.example/g03318/laws.FnExactBankTake", spec := "fnExactBankTake", unfollowed := true, recurses := true, apart := false }
def FnExactBankTakeSaid : Prop := fnExactBankTakeRow.holds Try.pinned (OpenSpec.ofChange fnExactBankTakeSpec)

/-- ITS FALSE NEIGHBOUR: 'it returns false'. Refute it at one input. -/
def fnExactBankTakeWrong : ChangeSpec := { name := "fnExactBankTake", fn := fun _ => fun
  | [d1, d2] => { results := [.lit (.bool false)], args := [d1, d2] }
  | _ => none }
def FnExactBankTakeWrongFalsely : Prop := fnExactBankTakeRow.holds Try.pinned (OpenSpec.ofChange fnExactBankTakeWrong)

/-- 'laws.FnBoxes': WHATEVER THE INPUT: true; the input reads as it did. -/
def fnBoxesSpec : ChangeSpec := { name := "fnBoxes", fn := fun _ => fun
  | [d] => { results := [.lit (.bool true)], args := [d] }
  | _ => none }
def fnBoxesRow : OpenClaim := { program := "ytbpjidekjogfeaa", sum := "dd981ab6ed6d4774796f62c2900ad66952a5b9eaedbd1dc56652c3370072b83a", func := "loop.example/g03318/laws.FnBoxes", spec := "fnBoxes", unfollowed := true, recurses := true, apart := false }
def FnBoxesSaid : Prop := fnBoxesRow.holds Try.pinned (OpenSpec.ofChange fnBoxesSpec)

/-- ITS FALSE NEIGHBOUR: 'it returns false'. Refute it at one input. -/
def fnBoxesWrong : ChangeSpec := { name := "fnBoxes", fn := fun _ => fun
  | [d] => { results := [.lit (.bool false)], args := [d] }
  | _ => none }
def FnBoxesWrongFalsely : Prop := fnBoxesRow.holds Try.pinned (OpenSpec.ofChange fnBoxesWrong)

/-- 'laws.FnExactPutIn': WHATEVER THE INPUT: true; the input reads as it did. -/
def fnExactPutInSpec : ChangeSpec := { name := "fnExactPutIn", fn := fun _ => fun
  | [d1, d2, d3] => { results := [.lit (.bool true)], args := [d1, d2, d3] }
  | _ => none }
def fnExactPutInRow : OpenClaim := { program := "ytbpjidekjogfeaa", sum := "dd981ab6ed6d4774796f62c2900ad66952a5b9eaedbd1dc56652c3370072b83a", func := "loop.example/g03318/laws.FnExactPutIn", spec := "fnExactPutIn", unfollowed := true, recurses := true, apart := false }
def FnExactPutInSaid : Prop := fnExactPutInRow.holds Try.pinned (OpenSpec.ofChange fnExactPutInSpec)

/-- ITS FALSE NEIGHBOUR: 'it returns false'. Refute it at one input. -/
def fnExactPutInWrong : ChangeSpec := { name := "fnExactPutIn", fn := fun _ => fun
  | [d1, d2, d3] => { results := [.lit (.bool false)], args := [d1, d2, d3] }
  | _ => none }
def FnExactPutInWrongFalsely : Prop := fnExactPutInRow.holds Try.pinned (OpenSpec.ofChange fnExactPutInWrong)

/-- 'laws.FnExactCanHold': WHATEVER THE INPUT: true; the input reads as it did. -/
def fnExactCanHoldSpec : ChangeSpec := { name := "fnExactCanHold", fn := fun _ => fun
  | [d1, d2] => { results := [.lit (.bool true)], args := [d1, d2] }
  | _ => none }
def fnExactCanHoldRow : OpenClaim := { program := "ytbpjidekjogfeaa", sum := "dd981ab6ed6d4774796f62c2900ad66952a5b9eaedbd1dc56652c3370072b83a", func := "loop.example/g03318/laws.FnExactCanHold", spec := "fnExactCanHold", recurses := true, apart := false }
def FnExactCanHoldSaid : Prop := fnExactCanHoldRow.holds Try.pinned (OpenSpec.ofChange fnExactCanHoldSpec)

/-- ITS FALSE NEIGHBOUR: 'it returns false'. Refute it at one input. -/
def fnExactCanHoldWrong : ChangeSpec := { name := "fnExactCanHold", fn := fun _ => fun
  | [d1, d2] => { results := [.lit (.bool false)], args := [d1, d2] }
  | _ => none }
def FnExactCanHoldWrongFalsely : Prop := fnExactCanHoldRow.holds Try.pinned (OpenSpec.ofChange fnExactCanHoldWrong)

/-- 'laws.FnExactHeldInOrder': WHATEVER THE INPUT: true; the input reads as it did. -/
def fnExactHeldInOrderSpec : ChangeSpec := { name := "fnExactHeldInOrder", fn := fun _ => fun
  | [d1, d2] => { results := [.lit (.bool true)], args := [d1, d2] }
  | _ => none }
def fnExactHeldInOrderRow : OpenClaim := { program := "ytbpjidekjogfeaa", sum := "dd981ab6ed6d4774796f62c2900ad66952a5b9eaedbd1dc56652c3370072b83a", func := "loop.example/g03318/laws.FnExactHeldInOrder", spec := "fnExactHeldInOrder", apart := false }
def FnExactHeldInOrderSaid : Prop := fnExactHeldInOrderRow.holds Try.pinned (OpenSpec.ofChange fnExactHeldInOrderSpec)

/-- ITS FALSE NEIGHBOUR: 'it returns false'. Refute it at one input. -/
def fnExactHeldInOrderWrong : ChangeSpec := { name := "fnExactHeldInOrder", fn := fun _ => fun
  | [d1, d2] => { results := [.lit (.bool false)], args := [d1, d2] }
  | _ => none }
def FnExactHeldInOrderWrongFalsely : Prop := fnExactHeldInOrderRow.holds Try.pinned (OpenSpec.ofChange fnExactHeldInOrderWrong)

/-- 'laws.FnMost': WHATEVER THE INPUT: true; the input reads as it did. -/
def fnMostSpec : ChangeSpec := { name := "fnMost", fn := fun _ => fun
  | [d] => { results := [.lit (.bool true)], args := [d] }
  | _ => none }
def fnMostRow : OpenClaim := { program := "ytbpjidekjogfeaa", sum := "dd981ab6ed6d4774796f62c2900ad66952a5b9eaedbd1dc56652c3370072b83a", func := "loop.example/g03318/laws.FnMost", spec := "fnMost", recurses := true, apart := false }
def FnMostSaid : Prop := fnMostRow.holds Try.pinned (OpenSpec.ofChange fnMostSpec)

/-- ITS FALSE NEIGHBOUR: 'it returns false'. Refute it at one input. -/
def fnMostWrong : ChangeSpec := { name := "fnMost", fn := fun _ => fun
  | [d] => { results := [.lit (.bool false)], args := [d] }
  | _ => none }
def FnMostWrongFalsely : Prop := fnMostRow.holds Try.pinned (OpenSpec.ofChange fnMostWrong)

/-- 'laws.FnExactPlacesFor': WHATEVER THE INPUT: true; the input reads as it did. -/
def fnExactPlacesForSpec : ChangeSpec := { name := "fnExactPlacesFor", fn := fun _ => fun
  | [d1, d2] => { results := [.lit (.bool true)], args := [d1, d2] }
  | _ => none }
def fnExactPlacesForRow : OpenClaim := { program := "ytbpjidekjogfeaa", sum := "dd981ab6ed6d4774796f62c2900ad66952a5b9eaedbd1dc56652c3370072b83a", func := "loop.example/g03318/laws.FnExactPlacesFor", spec := "fnExactPlacesFor", recurses := true, apart := false }
def FnExactPlacesForSaid : Prop := fnExactPlacesForRow.holds Try.pinned (OpenSpec.ofChange fnExactPlacesForSpec)

/-- ITS FALSE NEIGHBOUR: 'it returns false'. Refute it at one input. -/
def fnExactPlacesForWrong : ChangeSpec := { name := "fnExactPlacesFor", fn := fun _ => fun
  | [d1, d2] => { results := [.lit (.bool false)], args := [d1, d2] }
  | _ => none }
def FnExactPlacesForWrongFalsely : Prop := fnExactPlacesForRow.holds Try.pinned (OpenSpec.ofChange fnExactPlacesForWrong)

/-- 'laws.FnExactBankPut': WHATEVER THE INPUT: true; the input reads as it did. -/
def fnExactBankPutSpec : ChangeSpec := { name := "fnExactBankPut", fn := fun _ => fun
  | [d1, d2, d3] => { results := [.lit (.bool true)], args := [d1, d2, d3] }
  | _ => none }
def fnExactBankPutRow : OpenClaim := { program := "ytbpjidekjogfeaa", sum := "dd981ab6ed6d4774796f62c2900ad66952a5b9eaedbd1dc56652c3370072b83a", func := "loop.example/g03318/laws.FnExactBankPut", spec := "fnExactBankPut", unfollowed := true, recurses := true, apart := false }
def FnExactBankPutSaid : Prop := fnExactBankPutRow.holds Try.pinned (OpenSpec.ofChange fnExactBankPutSpec)

/-- ITS FALSE NEIGHBOUR: 'it returns false'. Refute it at one input. -/
def fnExactBankPutWrong : ChangeSpec := { name := "fnExactBankPut", fn := fun _ => fun
  | [d1, d2, d3] => { results := [.lit (.bool false)], args := [d1, d2, d3] }
  | _ => none }
def FnExactBankPutWrongFalsely : Prop := fnExactBankPutRow.holds Try.pinned (OpenSpec.ofChange fnExactBankPutWrong)

/-- 'laws.FnBanks': WHATEVER THE INPUT: true; the input reads as it did. -/
def fnBanksSpec : ChangeSpec := { name := "fnBanks", fn := fun _ => fun
  | [d] => { results := [.lit (.bool true)], args := [d] }
  | _ => none }
def fnBanksRow : OpenClaim := { program := "ytbpjidekjogfeaa", sum := "dd981ab6ed6d4774796f62c2900ad66952a5b9eaedbd1dc56652c3370072b83a", func := "loop.example/g03318/laws.FnBanks", spec := "fnBanks", unfollowed := true, recurses := true, apart := false }
def FnBanksSaid : Prop := fnBanksRow.holds Try.pinned (OpenSpec.ofChange fnBanksSpec)

/-- ITS FALSE NEIGHBOUR: 'it returns false'. Refute it at one input. -/
def fnBanksWrong : ChangeSpec := { name := "fnBanks", fn := fun _ => fun
  | [d] => { results := [.lit (.bool false)], args := [d] }
  | _ => none }
def FnBanksWrongFalsely : Prop := fnBanksRow.holds Try.pinned (OpenSpec.ofChange fnBanksWrong)

/-- 'laws.FnDoublings': WHATEVER THE INPUT: true; the input reads as it did. -/
def fnDoublingsSpec : ChangeSpec := { name := "fnDoublings", fn := fun _ => fun
  | [d] => { results := [.lit (.bool true)], args := [d] }
  | _ => none }
def fnDoublingsRow : OpenClaim := { program := "ytbpjidekjogfeaa", sum := "dd981ab6ed6d4774796f62c2900ad66952a5b9eaedbd1dc56652c3370072b83a", func := "loop.example/g03318/laws.FnDoublings", spec := "fnDoublings", recurses := true, apart := false }
def FnDoublingsSaid : Prop := fnDoublingsRow.holds Try.pinned (OpenSpec.ofChange fnDoublingsSpec)

/-- ITS FALSE NEIGHBOUR: 'it returns false'. Refute it at one input. -/
def fnDoublingsWrong : ChangeSpec := { name := "fnDoublings", fn := fun _ => fun
  | [d] => { results := [.lit (.bool false)], args := [d] }
  | _ => none }
def FnDoublingsWrongFalsely : Prop := fnDoublingsRow.holds Try.pinned (OpenSpec.ofChange fnDoublingsWrong)

/-- 'laws.FnPacking': WHATEVER THE INPUT: true; the input reads as it did. -/
def fnPackingSpec : ChangeSpec := { name := "fnPacking", fn := fun _ => fun
  | [d] => { results := [.lit (.bool true)], args := [d] }
  | _ => none }
def fnPackingRow : OpenClaim := { program := "ytbpjidekjogfeaa", sum := "dd981ab6ed6d4774796f62c2900ad66952a5b9eaedbd1dc56652c3370072b83a", func := "loop.example/g03318/laws.FnPacking", spec := "fnPacking", recurses := true, apart := false }
def FnPackingSaid : Prop := fnPackingRow.holds Try.pinned (OpenSpec.ofChange fnPackingSpec)

/-- ITS FALSE NEIGHBOUR: 'it returns false'. Refute it at one input. -/
def fnPackingWrong : ChangeSpec := { name := "fnPacking", fn := fun _ => fun
  | [d] => { results := [.lit (.bool false)], args := [d] }
  | _ => none }
def FnPackingWrongFalsely : Prop := fnPackingRow.holds Try.pinned (OpenSpec.ofChange fnPackingWrong)

/- THE SECOND FORM. 'bulk': how many values and letters a reading holds, each counted each time it is reached (what is shared counts as often as it is met; a slice's spare places count too). A statement '..UptoSaid' is the law's where the arguments, and the package variables that the reading takes, are together of bulk at most 1048576: NARROWER than '..Said'. Prove '..Said' where nothing that the law and all that it calls make is longer than what came in: it says more and counts as full. Else prove '..UptoSaid'. A law counts once. -/
mutual
def uptoBulk {H : Type} : DataW H → Nat
  | .lit (.string bytes) => bytes.length + 1
  | .lit _ => 1
  | .nil => 1
  | .ptr d => uptoBulk d + 1
  | .slice elems spare => uptoBulkAll elems + uptoBulkAll spare + 1
  | .agg parts => uptoBulkAll parts + 1
  | .iface _ d => uptoBulk d + 1
  | .map entries => uptoBulkEntries entries + 1
  | .held _ => 1
def uptoBulkAll {H : Type} : List (DataW H) → Nat
  | [] => 0
  | d :: r => uptoBulk d + uptoBulkAll r
def uptoBulkEntries {H : Type} : List (Lit × DataW H) → Nat
  | [] => 0
  | x :: r => uptoBulkEntry x + uptoBulkEntries r
def uptoBulkEntry {H : Type} : Lit × DataW H → Nat
  | (.string bytes, d) => bytes.length + uptoBulk d + 1
  | (_, d) => uptoBulk d + 1
 end
def uptoSmall : (H : Type) → List (DataW H) → Bool := fun _ ds => decide (uptoBulkAll ds ≤ 1048576)
def OpenSpec.upto (s : _root_.Go.ChangeSpec) : _root_.Go.OpenSpec := { _root_.Go.OpenSpec.ofChange s with cond := some uptoSmall }

/-- 'laws.FnExactBankGaps', WHERE WHAT IT READS IS OF BULK AT MOST 1048576: true; the input reads as it did. -/
def fnExactBankGapsUptoRow : OpenClaim := { program := "ytbpjidekjogfeaa", sum := "dd981ab6ed6d4774796f62c2900ad66952a5b9eaedbd1dc56652c3370072b83a", func := "loop.example/g03318/laws.FnExactBankGaps", spec := "fnExactBankGaps", apart := false, narrowed := true }
def FnExactBankGapsUptoSaid : Prop := fnExactBankGapsUptoRow.holds Try.pinned (OpenSpec.upto fnExactBankGapsSpec)

/-- 'laws.FnExactBankTake', WHERE WHAT IT READS IS OF BULK AT MOST 1048576: true; the input reads as it did. -/
def fnExactBankTakeUptoRow : OpenClaim := { program := "ytbpjidekjogfeaa", sum := "dd981ab6ed6d4774796f62c2900ad66952a5b9eaedbd1dc56652c3370072b83a", func := "loop.example/g03318/laws.FnExactBankTake", spec := "fnExactBankTake", unfollowed := true, recurses := true, apart := false, narrowed := true }
def FnExactBankTakeUptoSaid : Prop := fnExactBankTakeUptoRow.holds Try.pinned (OpenSpec.upto fnExactBankTakeSpec)

/-- 'laws.FnBoxes', WHERE WHAT IT READS IS OF BULK AT MOST 1048576: true; the input reads as it did. -/
def fnBoxesUptoRow : OpenClaim := { program := "ytbpjidekjogfeaa", sum := "dd981ab6ed6d4774796f62c2900ad66952a5b9eaedbd1dc56652c3370072b83a", func := "loop.example/g03318/laws.FnBoxes", spec := "fnBoxes", unfollowed := true, recurses := true, apart := false, narrowed := true }
def FnBoxesUptoSaid : Prop := fnBoxesUptoRow.holds Try.pinned (OpenSpec.upto fnBoxesSpec)

/-- 'laws.FnExactPutIn', WHERE WHAT IT READS IS OF BULK AT MOST 1048576: true; the input reads as it did. -/
def fnExactPutInUptoRow : OpenClaim := { program := "ytbpjidekjogfeaa", sum := "dd981ab6ed6d4774796f62c2900ad66952a5b9eaedbd1dc56652c3370072b83a", func := "loop.example/g03318/laws.FnExactPutIn", spec := "fnExactPutIn", unfollowed := true, recurses := true, apart := false, narrowed := true }
def FnExactPutInUptoSaid : Prop := fnExactPutInUptoRow.holds Try.pinned (OpenSpec.upto fnExactPutInSpec)

/-- 'laws.FnExactCanHold', WHERE WHAT IT READS IS OF BULK AT MOST 1048576: true; the input reads as it did. -/
def fnExactCanHoldUptoRow : OpenClaim := { program := "ytbpjidekjogfeaa", sum := "dd981ab6ed6d4774796f62c2900ad66952a5b9eaedbd1dc56652c3370072b83a", func := "loop.example/g03318/laws.FnExactCanHold", spec := "fnExactCanHold", recurses := true, apart := false, narrowed := true }
def FnExactCanHoldUptoSaid : Prop := fnExactCanHoldUptoRow.holds Try.pinned (OpenSpec.upto fnExactCanHoldSpec)

/-- 'laws.FnExactHeldInOrder', WHERE WHAT IT READS IS OF BULK AT MOST 1048576: true; the input reads as it did. -/
def fnExactHeldInOrderUptoRow : OpenClaim := { program := "ytbpjidekjogfeaa", sum := "dd981ab6ed6d4774796f62c2900ad66952a5b9eaedbd1dc56652c3370072b83a", func := "loop.example/g03318/laws.FnExactHeldInOrder", spec := "fnExactHeldInOrder", apart := false, narrowed := true }
def FnExactHeldInOrderUptoSaid : Prop := fnExactHeldInOrderUptoRow.holds Try.pinned (OpenSpec.upto fnExactHeldInOrderSpec)

/-- 'laws.FnMost', WHERE WHAT IT READS IS OF BULK AT MOST 1048576: true; the input reads as it did. -/
def fnMostUptoRow : OpenClaim := { program := "ytbpjidekjogfeaa", sum := "dd981ab6ed6d4774796f62c2900ad66952a5b9eaedbd1dc56652c3370072b83a", func := "loop.example/g03318/laws.FnMost", spec := "fnMost", recurses := true, apart := false, narrowed := true }
def FnMostUptoSaid : Prop := fnMostUptoRow.holds Try.pinned (OpenSpec.upto fnMostSpec)

/-- 'laws.FnExactPlacesFor', WHERE WHAT IT READS IS OF BULK AT MOST 1048576: true; the input reads as it did. -/
def fnExactPlacesForUptoRow : OpenClaim := { program := "ytbpjidekjogfeaa", sum := "dd981ab6ed6d4774796f62c2900ad66952a5b9eaedbd1dc56652c3370072b83a", func := "loop.example/g03318/laws.FnExactPlacesFor", spec := "fnExactPlacesFor", recurses := true, apart := false, narrowed := true }
def FnExactPlacesForUptoSaid : Prop := fnExactPlacesForUptoRow.holds Try.pinned (OpenSpec.upto fnExactPlacesForSpec)

/-- 'laws.FnExactBankPut', WHERE WHAT IT READS IS OF BULK AT MOST 1048576: true; the input reads as it did. -/
def fnExactBankPutUptoRow : OpenClaim := { program := "ytbpjidekjogfeaa", sum := "dd981ab6ed6d4774796f62c2900ad66952a5b9eaedbd1dc56652c3370072b83a", func := "loop.example/g03318/laws.FnExactBankPut", spec := "fnExactBankPut", unfollowed := true, recurses := true, apart := false, narrowed := true }
def FnExactBankPutUptoSaid : Prop := fnExactBankPutUptoRow.holds Try.pinned (OpenSpec.upto fnExactBankPutSpec)

/-- 'laws.FnBanks', WHERE WHAT IT READS IS OF BULK AT MOST 1048576: true; the input reads as it did. -/
def fnBanksUptoRow : OpenClaim := { program := "ytbpjidekjogfeaa", sum := "dd981ab6ed6d4774796f62c2900ad66952a5b9eaedbd1dc56652c3370072b83a", func := "loop.example/g03318/laws.FnBanks", spec := "fnBanks", unfollowed := true, recurses := true, apart := false, narrowed := true }
def FnBanksUptoSaid : Prop := fnBanksUptoRow.holds Try.pinned (OpenSpec.upto fnBanksSpec)

/-- 'laws.FnDoublings', WHERE WHAT IT READS IS OF BULK AT MOST 1048576: true; the input reads as it did. -/
def fnDoublingsUptoRow : OpenClaim := { program := "ytbpjidekjogfeaa", sum := "dd981ab6ed6d4774796f62c2900ad66952a5b9eaedbd1dc56652c3370072b83a", func := "loop.example/g03318/laws.FnDoublings", spec := "fnDoublings", recurses := true, apart := false, narrowed := true }
def FnDoublingsUptoSaid : Prop := fnDoublingsUptoRow.holds Try.pinned (OpenSpec.upto fnDoublingsSpec)

/-- 'laws.FnPacking', WHERE WHAT IT READS IS OF BULK AT MOST 1048576: true; the input reads as it did. -/
def fnPackingUptoRow : OpenClaim := { program := "ytbpjidekjogfeaa", sum := "dd981ab6ed6d4774796f62c2900ad66952a5b9eaedbd1dc56652c3370072b83a", func := "loop.example/g03318/laws.FnPacking", spec := "fnPacking", recurses := true, apart := false, narrowed := true }
def FnPackingUptoSaid : Prop := fnPackingUptoRow.holds Try.pinned (OpenSpec.upto fnPackingSpec)

end Rows
end Go.Proofs.Ytbpjidekjogfeaa
