/- What the proof of the law FnHexText uses: lemmas, the Lean functions of the Go functions that it reaches, their contracts, and the pure statement's proof. -/
import Derived.Test.YtfoldjbcnlhipaaDoorZFnHexTextx2
import Derived.Test.YtfoldjbcnlhipaaDoorZFnHexTextx0
namespace Go.Proofs.YtfoldjbcnlhipaaDoorW.PrintLast
def up (b : Nat → Bool) (i : Nat) : Nat → Bool := fun j => if j = i then true else b j
end Go.Proofs.YtfoldjbcnlhipaaDoorW.PrintLast
