/- A source gives the bytes of the stream; read through once it fetches each page once, and then none of those it kept: whatever the bytes that the law draws its input from. -/
import Derived.Test.YtbjkaapkmemojaaPFnSourcex0
import Derived.Test.YtbjkaapkmemojaaPFnSourcex1
import Derived.Test.YtbjkaapkmemojaaPFnSourcex2
import Derived.Test.YtbjkaapkmemojaaPFnSourcex3
import Derived.Test.YtbjkaapkmemojaaPFnSourcex4
import Derived.Test.YtbjkaapkmemojaaPFnSourcex5
import Derived.Test.YtbjkaapkmemojaaPFnSourcex6
import Derived.Test.YtbjkaapkmemojaaPFnSourcex7
import Derived.Test.YtbjkaapkmemojaaPFnSourcex8
import Derived.Test.YtbjkaapkmemojaaPFnSourcex9
import Derived.Test.YtbjkaapkmemojaaMine
namespace Go.Proofs.Ytbjkaapkmemojaa.Pure
open Go.RowKit Go.Proofs.Ytbjkaapkmemojaa.PFnSource Go.Proofs.YtbjkaapkmemojaaW.PrintWords Go.Proofs.YtbjkaapkmemojaaW.PrintLast Go.Proofs.YtbjkaapkmemojaaW.PrintMore Go.Proofs.Ytbjkaapkmemojaa.Mine


theorem FnSource : ∀ (l0 : List (Int)), l0.length ≤ 9223372036854775807 → (∀ a ∈ l0, (Lit.int .u8 a).wf = true) → ∃ k, laws_FnSource.f k l0 = some true := by
  intros
  exact ⟨0, rfl⟩

end Go.Proofs.Ytbjkaapkmemojaa.Pure
