/-
  No cell of these rows narrows 'for every input' (looked for: loops, veiled, ifaces, maps, wideKeys, modest, calm, conditions, laid).
  DERIVED. THE GIVEN ROWS OF THIS SEAT. 12 by the template 'for every input the law returns true; each argument reads behind the call as it read before'; 0 by the template 'total and deterministic' (their statements: YtdijpjlmdbmdaaaTotals.lean).
  GIVEN WITH THE SEED: the statements are not yours to turn. If you find one false, say at which input.
  Laid BY PROGRAM, IN A SANDBOX (cutbox-rows.mjs): the forced cells as the released guide's own fill.sh prints them over the translation 84ed2c6a73c83d5f… (all of the seat's roots in one cut). By AI agents, Wed Nov 11 2026. No macro, syntax, notation, axiom, sorry.
-/
import Derived.Test.YtdijpjlmdbmdaaaChecked
import GoSem.Claim
import GoSem.ClaimJoined
import GoSem.ClaimMapViews
import Derived.JoinedTies
import Derived.KernelRfl
namespace Go.Proofs.Ytdijpjlmdbmdaaa
/- THE CELL 'sum', in the pinned program and in every row, IS THE sha256 OF THE DUMP (.gsa) THAT YtdijpjlmdbmdaaaProg.lean LOADS. Nothing in Lean hashes anything: it is a label: what it is worth is what the hold of that sum in a sandbox is worth. -/
noncomputable def Try.pinned : Pinned := { name := "ytdijpjlmdbmdaaa", sum := "84ed2c6a73c83d5fad0756f5c50c3c3a1cda5d0d259b98aa950b7515b3fe1e90", checked := Try.checked }
namespace Rows
def none {H : Type} : Left H := { results := [], args := [] }

/-- 'laws.FnExactConstants': WHATEVER THE INPUT: true; the input reads as it did. -/
def fnExactConstantsSpec : ChangeSpec := { name := "fnExactConstants", fn := fun _ => fun
  | [] => { results := [.lit (.bool true)], args := [] }
  | _ => none }
def fnExactConstantsRow : OpenClaim := { program := "ytdijpjlmdbmdaaa", sum := "84ed2c6a73c83d5fad0756f5c50c3c3a1cda5d0d259b98aa950b7515b3fe1e90", func := "loop.example/g03318/laws.FnExactConstants", spec := "fnExactConstants", apart := false }
def FnExactConstantsSaid : Prop := fnExactConstantsRow.holds Try.pinned (OpenSpec.ofChange fnExactConstantsSpec)

/-- ITS FALSE NEIGHBOUR: 'it returns false'. Refute it at one input. -/
def fnExactConstantsWrong : ChangeSpec := { name := "fnExactConstants", fn := fun _ => fun
  | [] => { results := [.lit (.bool false)], args := [] }
  | _ => none }
def FnExactConstantsWrongFalsely : Prop := fnExactConstantsRow.holds Try.pinned (OpenSpec.ofChange fnExactConstantsWrong)

/-- 'laws.FnExactPadOk': WHATEVER THE INPUT: true; the input reads as it did. -/
def fnExactPadOkSpec : ChangeSpec := { name := "fnExactPadOk", fn := fun _ => fun
  | [d] => { results := [.lit (.bool true)], args := [d] }
  | _ => none }
def fnExactPadOkRow : OpenClaim := { program := "ytdijpjlmdbmdaaa", sum := "84ed2c6a73c83d5fad0756f5c50c3c3a1cda5d0d259b98aa950b7515b3fe1e90", func := "loop.example/g03318/laws.FnExactPadOk", spec := "fnExactPadOk", apart := false }
def FnExactPadOkSaid : Prop := fnExactPadOkRow.holds Try.pinned (OpenSpec.ofChange fnExactPadOkSpec)

/-- ITS FALSE NEIGHBOUR: 'it returns false'. Refute it at one input. -/
def fnExactPadOkWrong : ChangeSpec := { name := "fnExactPadOk", fn := fun _ => fun
  | [d] => { results := [.lit (.bool false)], args := [d] }
  | _ => none }
def FnExactPadOkWrongFalsely : Prop := fnExactPadOkRow.holds Try.pinned (OpenSpec.ofChange fnExactPadOkWrong)

/-- 'laws.FnExactTryName': WHATEVER THE INPUT: true; the input reads as it did. -/
def fnExactTryNameSpec : ChangeSpec := { name := "fnExactTryName", fn := fun _ => fun
  | [d] => { results := [.lit (.bool true)], args := [d] }
  | _ => none }
def fnExactTryNameRow : OpenClaim := { program := "ytdijpjlmdbmdaaa", sum := "84ed2c6a73c83d5fad0756f5c50c3c3a1cda5d0d259b98aa950b7515b3fe1e90", func := "loop.example/g03318/laws.FnExactTryName", spec := "fnExactTryName", apart := false }
def FnExactTryNameSaid : Prop := fnExactTryNameRow.holds Try.pinned (OpenSpec.ofChange fnExactTryNameSpec)

/-- ITS FALSE NEIGHBOUR: 'it returns false'. Refute it at one input. -/
def fnExactTryNameWrong : ChangeSpec := { name := "fnExactTryName", fn := fun _ => fun
  | [d] => { results := [.lit (.bool false)], args := [d] }
  | _ => none }
def FnExactTryNameWrongFalsely : Prop := fnExactTryNameRow.holds Try.pinned (OpenSpec.ofChange fnExactTryNameWrong)

/-- 'laws.FnExactClamp': WHATEVER THE INPUT: true; the input reads as it did. -/
def fnExactClampSpec : ChangeSpec := { name := "fnExactClamp", fn := fun _ => fun
  | [d1, d2, d3] => { results := [.lit (.bool true)], args := [d1, d2, d3] }
  | _ => none }
def fnExactClampRow : OpenClaim := { program := "ytdijpjlmdbmdaaa", sum := "84ed2c6a73c83d5fad0756f5c50c3c3a1cda5d0d259b98aa950b7515b3fe1e90", func := "loop.example/g03318/laws.FnExactClamp", spec := "fnExactClamp", apart := false }
def FnExactClampSaid : Prop := fnExactClampRow.holds Try.pinned (OpenSpec.ofChange fnExactClampSpec)

/-- ITS FALSE NEIGHBOUR: 'it returns false'. Refute it at one input. -/
def fnExactClampWrong : ChangeSpec := { name := "fnExactClamp", fn := fun _ => fun
  | [d1, d2, d3] => { results := [.lit (.bool false)], args := [d1, d2, d3] }
  | _ => none }
def FnExactClampWrongFalsely : Prop := fnExactClampRow.holds Try.pinned (OpenSpec.ofChange fnExactClampWrong)

/-- 'laws.FnExactLockOk': WHATEVER THE INPUT: true; the input reads as it did. -/
def fnExactLockOkSpec : ChangeSpec := { name := "fnExactLockOk", fn := fun _ => fun
  | [d] => { results := [.lit (.bool true)], args := [d] }
  | _ => none }
def fnExactLockOkRow : OpenClaim := { program := "ytdijpjlmdbmdaaa", sum := "84ed2c6a73c83d5fad0756f5c50c3c3a1cda5d0d259b98aa950b7515b3fe1e90", func := "loop.example/g03318/laws.FnExactLockOk", spec := "fnExactLockOk", apart := false }
def FnExactLockOkSaid : Prop := fnExactLockOkRow.holds Try.pinned (OpenSpec.ofChange fnExactLockOkSpec)

/-- ITS FALSE NEIGHBOUR: 'it returns false'. Refute it at one input. -/
def fnExactLockOkWrong : ChangeSpec := { name := "fnExactLockOk", fn := fun _ => fun
  | [d] => { results := [.lit (.bool false)], args := [d] }
  | _ => none }
def FnExactLockOkWrongFalsely : Prop := fnExactLockOkRow.holds Try.pinned (OpenSpec.ofChange fnExactLockOkWrong)

/-- 'laws.FnExactMostWrong': WHATEVER THE INPUT: true; the input reads as it did. -/
def fnExactMostWrongSpec : ChangeSpec := { name := "fnExactMostWrong", fn := fun _ => fun
  | [d] => { results := [.lit (.bool true)], args := [d] }
  | _ => none }
def fnExactMostWrongRow : OpenClaim := { program := "ytdijpjlmdbmdaaa", sum := "84ed2c6a73c83d5fad0756f5c50c3c3a1cda5d0d259b98aa950b7515b3fe1e90", func := "loop.example/g03318/laws.FnExactMostWrong", spec := "fnExactMostWrong", apart := false }
def FnExactMostWrongSaid : Prop := fnExactMostWrongRow.holds Try.pinned (OpenSpec.ofChange fnExactMostWrongSpec)

/-- ITS FALSE NEIGHBOUR: 'it returns false'. Refute it at one input. -/
def fnExactMostWrongWrong : ChangeSpec := { name := "fnExactMostWrong", fn := fun _ => fun
  | [d] => { results := [.lit (.bool false)], args := [d] }
  | _ => none }
def FnExactMostWrongWrongFalsely : Prop := fnExactMostWrongRow.holds Try.pinned (OpenSpec.ofChange fnExactMostWrongWrong)

/-- 'laws.FnExactCanOpen': WHATEVER THE INPUT: true; the input reads as it did. -/
def fnExactCanOpenSpec : ChangeSpec := { name := "fnExactCanOpen", fn := fun _ => fun
  | [d1, d2] => { results := [.lit (.bool true)], args := [d1, d2] }
  | _ => none }
def fnExactCanOpenRow : OpenClaim := { program := "ytdijpjlmdbmdaaa", sum := "84ed2c6a73c83d5fad0756f5c50c3c3a1cda5d0d259b98aa950b7515b3fe1e90", func := "loop.example/g03318/laws.FnExactCanOpen", spec := "fnExactCanOpen", apart := false }
def FnExactCanOpenSaid : Prop := fnExactCanOpenRow.holds Try.pinned (OpenSpec.ofChange fnExactCanOpenSpec)

/-- ITS FALSE NEIGHBOUR: 'it returns false'. Refute it at one input. -/
def fnExactCanOpenWrong : ChangeSpec := { name := "fnExactCanOpen", fn := fun _ => fun
  | [d1, d2] => { results := [.lit (.bool false)], args := [d1, d2] }
  | _ => none }
def FnExactCanOpenWrongFalsely : Prop := fnExactCanOpenRow.holds Try.pinned (OpenSpec.ofChange fnExactCanOpenWrong)

/-- 'laws.FnExactNewLock': WHATEVER THE INPUT: true; the input reads as it did. -/
def fnExactNewLockSpec : ChangeSpec := { name := "fnExactNewLock", fn := fun _ => fun
  | [d] => { results := [.lit (.bool true)], args := [d] }
  | _ => none }
def fnExactNewLockRow : OpenClaim := { program := "ytdijpjlmdbmdaaa", sum := "84ed2c6a73c83d5fad0756f5c50c3c3a1cda5d0d259b98aa950b7515b3fe1e90", func := "loop.example/g03318/laws.FnExactNewLock", spec := "fnExactNewLock", apart := false }
def FnExactNewLockSaid : Prop := fnExactNewLockRow.holds Try.pinned (OpenSpec.ofChange fnExactNewLockSpec)

/-- ITS FALSE NEIGHBOUR: 'it returns false'. Refute it at one input. -/
def fnExactNewLockWrong : ChangeSpec := { name := "fnExactNewLock", fn := fun _ => fun
  | [d] => { results := [.lit (.bool false)], args := [d] }
  | _ => none }
def FnExactNewLockWrongFalsely : Prop := fnExactNewLockRow.holds Try.pinned (OpenSpec.ofChange fnExactNewLockWrong)

/-- 'laws.FnExactEncodeHex': WHATEVER THE INPUT: true; the input reads as it did. -/
def fnExactEncodeHexSpec : ChangeSpec := { name := "fnExactEncodeHex", fn := fun _ => fun
  | [d] => { results := [.lit (.bool true)], args := [d] }
  | _ => none }
def fnExactEncodeHexRow : OpenClaim := { program := "ytdijpjlmdbmdaaa", sum := "84ed2c6a73c83d5fad0756f5c50c3c3a1cda5d0d259b98aa950b7515b3fe1e90", func := "loop.example/g03318/laws.FnExactEncodeHex", spec := "fnExactEncodeHex", inPlace := ["internal/abi.NoEscape"], apart := false }
def FnExactEncodeHexSaid : Prop := fnExactEncodeHexRow.holds Try.pinned (OpenSpec.ofChange fnExactEncodeHexSpec)

/-- ITS FALSE NEIGHBOUR: 'it returns false'. Refute it at one input. -/
def fnExactEncodeHexWrong : ChangeSpec := { name := "fnExactEncodeHex", fn := fun _ => fun
  | [d] => { results := [.lit (.bool false)], args := [d] }
  | _ => none }
def FnExactEncodeHexWrongFalsely : Prop := fnExactEncodeHexRow.holds Try.pinned (OpenSpec.ofChange fnExactEncodeHexWrong)

/-- 'laws.FnClamped': WHATEVER THE INPUT: true; the input reads as it did. -/
def fnClampedSpec : ChangeSpec := { name := "fnClamped", fn := fun _ => fun
  | [d] => { results := [.lit (.bool true)], args := [d] }
  | _ => none }
def fnClampedRow : OpenClaim := { program := "ytdijpjlmdbmdaaa", sum := "84ed2c6a73c83d5fad0756f5c50c3c3a1cda5d0d259b98aa950b7515b3fe1e90", func := "loop.example/g03318/laws.FnClamped", spec := "fnClamped", apart := false }
def FnClampedSaid : Prop := fnClampedRow.holds Try.pinned (OpenSpec.ofChange fnClampedSpec)

/-- ITS FALSE NEIGHBOUR: 'it returns false'. Refute it at one input. -/
def fnClampedWrong : ChangeSpec := { name := "fnClamped", fn := fun _ => fun
  | [d] => { results := [.lit (.bool false)], args := [d] }
  | _ => none }
def FnClampedWrongFalsely : Prop := fnClampedRow.holds Try.pinned (OpenSpec.ofChange fnClampedWrong)

/-- 'laws.FnExactSpansOk': WHATEVER THE INPUT: true; the input reads as it did. -/
def fnExactSpansOkSpec : ChangeSpec := { name := "fnExactSpansOk", fn := fun _ => fun
  | [d1, d2] => { results := [.lit (.bool true)], args := [d1, d2] }
  | _ => none }
def fnExactSpansOkRow : OpenClaim := { program := "ytdijpjlmdbmdaaa", sum := "84ed2c6a73c83d5fad0756f5c50c3c3a1cda5d0d259b98aa950b7515b3fe1e90", func := "loop.example/g03318/laws.FnExactSpansOk", spec := "fnExactSpansOk", apart := false }
def FnExactSpansOkSaid : Prop := fnExactSpansOkRow.holds Try.pinned (OpenSpec.ofChange fnExactSpansOkSpec)

/-- ITS FALSE NEIGHBOUR: 'it returns false'. Refute it at one input. -/
def fnExactSpansOkWrong : ChangeSpec := { name := "fnExactSpansOk", fn := fun _ => fun
  | [d1, d2] => { results := [.lit (.bool false)], args := [d1, d2] }
  | _ => none }
def FnExactSpansOkWrongFalsely : Prop := fnExactSpansOkRow.holds Try.pinned (OpenSpec.ofChange fnExactSpansOkWrong)

/-- 'laws.FnExactDecodeHex': WHATEVER THE INPUT: true; the input reads as it did. -/
def fnExactDecodeHexSpec : ChangeSpec := { name := "fnExactDecodeHex", fn := fun _ => fun
  | [d] => { results := [.lit (.bool true)], args := [d] }
  | _ => none }
def fnExactDecodeHexRow : OpenClaim := { program := "ytdijpjlmdbmdaaa", sum := "84ed2c6a73c83d5fad0756f5c50c3c3a1cda5d0d259b98aa950b7515b3fe1e90", func := "loop.example/g03318/laws.FnExactDecodeHex", spec := "fnExactDecodeHex", inPlace := ["internal/abi.NoEscape"], unfollowed := true, recurses := true, apart := false }
def FnExactDecodeHexSaid : Prop := fnExactDecodeHexRow.holds Try.pinned (OpenSpec.ofChange fnExactDecodeHexSpec)

/-- ITS FALSE NEIGHBOUR: 'it returns false'. Refute it at one input. -/
def fnExactDecodeHexWrong : ChangeSpec := { name := "fnExactDecodeHex", fn := fun _ => fun
  | [d] => { results := [.lit (.bool false)], args := [d] }
  | _ => none }
def FnExactDecodeHexWrongFalsely : Prop := fnExactDecodeHexRow.holds Try.pinned (OpenSpec.ofChange fnExactDecodeHexWrong)

/- THE SECOND FORM. 'bulk': how many values and letters a reading holds, each counted each time it is reached (what is shared counts as often as it is met; a slice's spare places count too). A statement '..UptoSaid' is the law's where the arguments, and the package variables that the reading takes, are together of bulk at most 1048576: NARROWER than '..Said'. Prove '..Said' where nothing that the law and all that it calls make is longer than what came in: it says more and counts as full. Else prove '..UptoSaid'. A law counts once. -/
mutual
def uptoBulk {H : Type} : DataW H → Nat
  | .lit (.string bytes) => bytes.length + 1
  | .lit _ => 1
  | .nil => 1
  | .ptr d => uptoBulk d + 1
  | .slice elems spare => uptoBulkAll elems + uptoBulkAll spare + 1
  | .agg parts => uptoBulkAll parts + 1
  | .iface _ d => uptoBulk d + 1
  | .map entries => uptoBulkEntries entries + 1
  | .held _ => 1
def uptoBulkAll {H : Type} : List (DataW H) → Nat
  | [] => 0
  | d :: r => uptoBulk d + uptoBulkAll r
def uptoBulkEntries {H : Type} : List (Lit × DataW H) → Nat
  | [] => 0
  | x :: r => uptoBulkEntry x + uptoBulkEntries r
def uptoBulkEntry {H : Type} : Lit × DataW H → Nat
  | (.string bytes, d) => bytes.length + uptoBulk d + 1
  | (_, d) => uptoBulk d + 1
 end
def uptoSmall : (H : Type) → List (DataW H) → Bool := fun _ ds => decide (uptoBulkAll ds ≤ 1048576)
def OpenSpec.upto (s : _root_.Go.ChangeSpec) : _root_.Go.OpenSpec := { _root_.Go.OpenSpec.ofChange s with cond := some uptoSmall }

/-- 'laws.FnExactConstants', WHERE WHAT IT READS IS OF BULK AT MOST 1048576: true; the input reads as it did. -/
def fnExactConstantsUptoRow : OpenClaim := { program := "ytdijpjlmdbmdaaa", sum := "84ed2c6a73c83d5fad0756f5c50c3c3a1cda5d0d259b98aa950b7515b3fe1e90", func := "loop.example/g03318/laws.FnExactConstants", spec := "fnExactConstants", apart := false, narrowed := true }
def FnExactConstantsUptoSaid : Prop := fnExactConstantsUptoRow.holds Try.pinned (OpenSpec.upto fnExactConstantsSpec)

/-- 'laws.FnExactPadOk', WHERE WHAT IT READS IS OF BULK AT MOST 1048576: true; the input reads as it did. -/
def fnExactPadOkUptoRow : OpenClaim := { program := "ytdijpjlmdbmdaaa", sum := "84ed2c6a73c83d5fad0756f5c50c3c3a1cda5d0d259b98aa950b7515b3fe1e90", func := "loop.example/g03318/laws.FnExactPadOk", spec := "fnExactPadOk", apart := false, narrowed := true }
def FnExactPadOkUptoSaid : Prop := fnExactPadOkUptoRow.holds Try.pinned (OpenSpec.upto fnExactPadOkSpec)

/-- 'laws.FnExactTryName', WHERE WHAT IT READS IS OF BULK AT MOST 1048576: true; the input reads as it did. -/
def fnExactTryNameUptoRow : OpenClaim := { program := "ytdijpjlmdbmdaaa", sum := "84ed2c6a73c83d5fad0756f5c50c3c3a1cda5d0d259b98aa950b7515b3fe1e90", func := "loop.example/g03318/laws.FnExactTryName", spec := "fnExactTryName", apart := false, narrowed := true }
def FnExactTryNameUptoSaid : Prop := fnExactTryNameUptoRow.holds Try.pinned (OpenSpec.upto fnExactTryNameSpec)

/-- 'laws.FnExactClamp', WHERE WHAT IT READS IS OF BULK AT MOST 1048576: true; the input reads as it did. -/
def fnExactClampUptoRow : OpenClaim := { program := "ytdijpjlmdbmdaaa", sum := "84ed2c6a73c83d5fad0756f5c50c3c3a1cda5d0d259b98aa950b7515b3fe1e90", func := "loop.example/g03318/laws.FnExactClamp", spec := "fnExactClamp", apart := false, narrowed := true }
def FnExactClampUptoSaid : Prop := fnExactClampUptoRow.holds Try.pinned (OpenSpec.upto fnExactClampSpec)

/-- 'laws.FnExactLockOk', WHERE WHAT IT READS IS OF BULK AT MOST 1048576: true; the input reads as it did. -/
def fnExactLockOkUptoRow : OpenClaim := { program := "ytdijpjlmdbmdaaa", sum := "84ed2c6a73c83d5fad0756f5c50c3c3a1cda5d0d259b98aa950b7515b3fe1e90", func := "loop.example/g03318/laws.FnExactLockOk", spec := "fnExactLockOk", apart := false, narrowed := true }
def FnExactLockOkUptoSaid : Prop := fnExactLockOkUptoRow.holds Try.pinned (OpenSpec.upto fnExactLockOkSpec)

/-- 'laws.FnExactMostWrong', WHERE WHAT IT READS IS OF BULK AT MOST 1048576: true; the input reads as it did. -/
def fnExactMostWrongUptoRow : OpenClaim := { program := "ytdijpjlmdbmdaaa", sum := "84ed2c6a73c83d5fad0756f5c50c3c3a1cda5d0d259b98aa950b7515b3fe1e90", func := "loop.example/g03318/laws.FnExactMostWrong", spec := "fnExactMostWrong", apart := false, narrowed := true }
def FnExactMostWrongUptoSaid : Prop := fnExactMostWrongUptoRow.holds Try.pinned (OpenSpec.upto fnExactMostWrongSpec)

/-- 'laws.FnExactCanOpen', WHERE WHAT IT READS IS OF BULK AT MOST 1048576: true; the input reads as it did. -/
def fnExactCanOpenUptoRow : OpenClaim := { program := "ytdijpjlmdbmdaaa", sum := "84ed2c6a73c83d5fad0756f5c50c3c3a1cda5d0d259b98aa950b7515b3fe1e90", func := "loop.example/g03318/laws.FnExactCanOpen", spec := "fnExactCanOpen", apart := false, narrowed := true }
def FnExactCanOpenUptoSaid : Prop := fnExactCanOpenUptoRow.holds Try.pinned (OpenSpec.upto fnExactCanOpenSpec)

/-- 'laws.FnExactNewLock', WHERE WHAT IT READS IS OF BULK AT MOST 1048576: true; the input reads as it did. -/
def fnExactNewLockUptoRow : OpenClaim := { program := "ytdijpjlmdbmdaaa", sum := "84ed2c6a73c83d5fad0756f5c50c3c3a1cda5d0d259b98aa950b7515b3fe1e90", func := "loop.example/g03318/laws.FnExactNewLock", spec := "fnExactNewLock", apart := false, narrowed := true }
def FnExactNewLockUptoSaid : Prop := fnExactNewLockUptoRow.holds Try.pinned (OpenSpec.upto fnExactNewLockSpec)

/-- 'laws.FnExactEncodeHex', WHERE WHAT IT READS IS OF BULK AT MOST 1048576: true; the input reads as it did. -/
def fnExactEncodeHexUptoRow : OpenClaim := { program := "ytdijpjlmdbmdaaa", sum := "84ed2c6a73c83d5fad0756f5c50c3c3a1cda5d0d259b98aa950b7515b3fe1e90", func := "loop.example/g03318/laws.FnExactEncodeHex", spec := "fnExactEncodeHex", inPlace := ["internal/abi.NoEscape"], apart := false, narrowed := true }
def FnExactEncodeHexUptoSaid : Prop := fnExactEncodeHexUptoRow.holds Try.pinned (OpenSpec.upto fnExactEncodeHexSpec)

/-- 'laws.FnClamped', WHERE WHAT IT READS IS OF BULK AT MOST 1048576: true; the input reads as it did. -/
def fnClampedUptoRow : OpenClaim := { program := "ytdijpjlmdbmdaaa", sum := "84ed2c6a73c83d5fad0756f5c50c3c3a1cda5d0d259b98aa950b7515b3fe1e90", func := "loop.example/g03318/laws.FnClamped", spec := "fnClamped", apart := false, narrowed := true }
def FnClampedUptoSaid : Prop := fnClampedUptoRow.holds Try.pinned (OpenSpec.upto fnClampedSpec)

/-- 'laws.FnExactSpansOk', WHERE WHAT IT READS IS OF BULK AT MOST 1048576: true; the input reads as it did. -/
def fnExactSpansOkUptoRow : OpenClaim := { program := "ytdijpjlmdbmdaaa", sum := "84ed2c6a73c83d5fad0756f5c50c3c3a1cda5d0d259b98aa950b7515b3fe1e90", func := "loop.example/g03318/laws.FnExactSpansOk", spec := "fnExactSpansOk", apart := false, narrowed := true }
def FnExactSpansOkUptoSaid : Prop := fnExactSpansOkUptoRow.holds Try.pinned (OpenSpec.upto fnExactSpansOkSpec)

/-- 'laws.FnExactDecodeHex', WHERE WHAT IT READS IS OF BULK AT MOST 1048576: true; the input reads as it did. -/
def fnExactDecodeHexUptoRow : OpenClaim := { program := "ytdijpjlmdbmdaaa", sum := "84ed2c6a73c83d5fad0756f5c50c3c3a1cda5d0d259b98aa950b7515b3fe1e90", func := "loop.example/g03318/laws.FnExactDecodeHex", spec := "fnExactDecodeHex", inPlace := ["internal/abi.NoEscape"], unfollowed := true, recurses := true, apart := false, narrowed := true }
def FnExactDecodeHexUptoSaid : Prop := fnExactDecodeHexUptoRow.holds Try.pinned (OpenSpec.upto fnExactDecodeHexSpec)

end Rows
end Go.Proofs.Ytdijpjlmdbmdaaa
