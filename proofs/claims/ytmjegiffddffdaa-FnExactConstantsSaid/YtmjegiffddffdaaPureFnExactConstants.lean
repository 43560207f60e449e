/- The plain side of FnExactConstants: the printed function answers true at every input; no condition is added. -/
import Derived.Test.YtmjegiffddffdaaPFnExactConstantsx0
import Derived.Test.YtmjegiffddffdaaPFnExactConstantsx1
import Derived.Test.YtmjegiffddffdaaBase
namespace Go.Proofs.Ytmjegiffddffdaa.Pure
open Go.RowKit Go.Proofs.Ytmjegiffddffdaa.PFnExactConstants Go.Proofs.YtmjegiffddffdaaW.PrintWords Go.Proofs.YtmjegiffddffdaaW.PrintLast Go.Proofs.YtmjegiffddffdaaW.PrintMore Go.Proofs.Ytmjegiffddffdaa.Base
set_option linter.unusedVariables false
set_option linter.unusedSimpArgs false

theorem FnExactConstants : laws_FnExactConstants.Pure := rfl

end Go.Proofs.Ytmjegiffddffdaa.Pure
