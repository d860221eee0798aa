/- The program's constants are the ones that the statement names; no condition. -/
import Derived.Test.YtopgcllcmgkibaaPFnExactConstantsx0
import Derived.Test.YtopgcllcmgkibaaPFnExactConstantsx1
import Derived.Test.YtopgcllcmgkibaaMine
namespace Go.Proofs.Ytopgcllcmgkibaa.Pure
open Go.RowKit Go.Proofs.Ytopgcllcmgkibaa.PFnExactConstants Go.Proofs.YtopgcllcmgkibaaW.PrintWords Go.Proofs.YtopgcllcmgkibaaW.PrintLast Go.Proofs.YtopgcllcmgkibaaW.PrintMore Go.Proofs.Ytopgcllcmgkibaa.Mine


theorem FnExactConstants : laws_FnExactConstants.Pure := by
  unfold laws_FnExactConstants.Pure laws_FnExactConstants.f
  rfl

end Go.Proofs.Ytopgcllcmgkibaa.Pure
