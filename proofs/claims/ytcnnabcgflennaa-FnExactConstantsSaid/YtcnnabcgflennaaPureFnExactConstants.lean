/- The law FnExactConstants, 'The program's Constants returns what the reference's returns, for all arguments', answers true for every input: what the program's functions compute is shown to answer it; conditions: none beyond the given statement's own. -/
import Derived.Test.YtcnnabcgflennaaPFnExactConstantsx1
namespace Go.Proofs.Ytcnnabcgflennaa.Pure
open Go Go.RowKit Go.Proofs.Ytcnnabcgflennaa.PFnExactConstants Go.Proofs.YtcnnabcgflennaaW.PrintWords Go.Proofs.YtcnnabcgflennaaW.PrintLast Go.Proofs.YtcnnabcgflennaaW.PrintMore
set_option linter.unusedVariables false
set_option linter.unusedSimpArgs false

theorem FnExactConstants : laws_FnExactConstants.Pure := rfl

end Go.Proofs.Ytcnnabcgflennaa.Pure
