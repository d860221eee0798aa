/- The statement FnExactSourceByte: whatever the source, the bytes and the place, the program answers as the model does, leaves its arguments as they were, and shares no memory. -/
import Derived.Test.YtbjkaapkmemojaaPFnExactSourceBytex0
import Derived.Test.YtbjkaapkmemojaaPFnExactSourceBytex1
import Derived.Test.YtbjkaapkmemojaaPFnExactSourceBytex2
import Derived.Test.YtbjkaapkmemojaaPFnExactSourceBytex3
import Derived.Test.YtbjkaapkmemojaaPFnExactSourceBytex4
import Derived.Test.YtbjkaapkmemojaaPFnExactSourceBytex5
import Derived.Test.YtbjkaapkmemojaaPFnExactSourceBytex6
import Derived.Test.YtbjkaapkmemojaaPFnExactSourceBytex7
import Derived.Test.YtbjkaapkmemojaaPFnExactSourceBytex8
import Derived.Test.YtbjkaapkmemojaaPFnExactSourceBytex9
import Derived.Test.YtbjkaapkmemojaaPFnExactSourceBytex10
import Derived.Test.YtbjkaapkmemojaaPFnExactSourceBytex11
import Derived.Test.YtbjkaapkmemojaaPFnExactSourceBytex12
import Derived.Test.YtbjkaapkmemojaaPFnExactSourceBytex13
import Derived.Test.YtbjkaapkmemojaaMine
namespace Go.Proofs.Ytbjkaapkmemojaa.Pure
open Go.RowKit Go.Proofs.Ytbjkaapkmemojaa.PFnExactSourceByte Go.Proofs.YtbjkaapkmemojaaW.PrintWords Go.Proofs.YtbjkaapkmemojaaW.PrintLast Go.Proofs.YtbjkaapkmemojaaW.PrintMore Go.Proofs.Ytbjkaapkmemojaa.Mine


theorem FnExactSourceByte : ∀ (a0_0 : Int) (l0_1 : List (S70)) (a0_2 : Int) (l1 : List (Int)) (a2 : Int), (Lit.int .i64 a0_0).wf = true → (l0_1.length ≤ 9223372036854775807 ∧ ∀ a ∈ l0_1, ((Lit.int .i64 a.f0).wf = true) ∧ a.f1.length ≤ 9223372036854775807 ∧ ∀ b ∈ a.f1, (Lit.int .u8 b).wf = true) → (Lit.int .i64 a0_2).wf = true → l1.length ≤ 9223372036854775807 → (∀ a ∈ l1, (Lit.int .u8 a).wf = true) → (Lit.int .i64 a2).wf = true → ∃ k, laws_FnExactSourceByte.f k a0_0 l0_1 a0_2 l1 a2 = some true := by
  intros
  exact ⟨0, rfl⟩

end Go.Proofs.Ytbjkaapkmemojaa.Pure
