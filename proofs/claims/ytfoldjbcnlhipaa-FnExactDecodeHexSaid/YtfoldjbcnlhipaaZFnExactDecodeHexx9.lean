/- What the proof of the law FnExactDecodeHex uses: lemmas, the Lean functions of the Go functions that it reaches, their contracts, and the pure statement's proof. -/
import Derived.Test.YtfoldjbcnlhipaaZFnExactDecodeHexx2
import Derived.Test.YtfoldjbcnlhipaaZFnExactDecodeHexx0
namespace Go.Proofs.YtfoldjbcnlhipaaW.PrintLast
def up (b : Nat → Bool) (i : Nat) : Nat → Bool := fun j => if j = i then true else b j
end Go.Proofs.YtfoldjbcnlhipaaW.PrintLast
