/- The program's Constants returns what the reference's returns, for all arguments. -/
import Derived.Test.YtjecngfaadejcaaPFnExactConstantsx1
namespace Go.Proofs.Ytjecngfaadejcaa.Pure
open Go.RowKit Go.Proofs.Ytjecngfaadejcaa.PFnExactConstants Go.Proofs.YtjecngfaadejcaaW.PrintWords Go.Proofs.YtjecngfaadejcaaW.PrintLast

theorem FnExactConstants : laws_FnExactConstants.Pure := rfl

end Go.Proofs.Ytjecngfaadejcaa.Pure
