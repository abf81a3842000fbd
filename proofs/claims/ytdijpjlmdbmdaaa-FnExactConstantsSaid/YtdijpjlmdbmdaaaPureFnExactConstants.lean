/- The pure statement of the law FnExactConstants: its function answers true for all arguments within the row's bounds; no further condition. -/
import Derived.Test.YtdijpjlmdbmdaaaPFnExactConstantsx1
namespace Go.Proofs.Ytdijpjlmdbmdaaa.Pure
open Go.RowKit Go.Proofs.Ytdijpjlmdbmdaaa.PFnExactConstants Go.Proofs.YtdijpjlmdbmdaaaW.PrintWords Go.Proofs.YtdijpjlmdbmdaaaW.PrintLast
set_option linter.unusedVariables false

theorem FnExactConstants : laws_FnExactConstants.Pure := rfl

end Go.Proofs.Ytdijpjlmdbmdaaa.Pure
