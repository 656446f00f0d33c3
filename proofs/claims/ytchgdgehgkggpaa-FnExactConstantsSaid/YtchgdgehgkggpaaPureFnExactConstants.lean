/- The constants are the reference's. No condition. -/
import Derived.Test.YtchgdgehgkggpaaPFnExactConstantsx1
import Derived.Test.YtchgdgehgkggpaaM
namespace Go.Proofs.Ytchgdgehgkggpaa.Pure
open Go.RowKit Go.Proofs.Ytchgdgehgkggpaa.PFnExactConstants Go.Proofs.YtchgdgehgkggpaaW.PrintWords Go.Proofs.YtchgdgehgkggpaaW.PrintLast Go.Proofs.YtchgdgehgkggpaaW.PrintMore Go.Proofs.YtchgdgehgkggpaaM
set_option linter.unusedVariables false
set_option linter.unusedSimpArgs false

theorem FnExactConstants : laws_FnExactConstants.Pure := rfl

end Go.Proofs.Ytchgdgehgkggpaa.Pure
