/- The statement FnExactSourceRun: whatever the source, the bytes and the two places, the program answers as the model does, leaves its arguments as they were, and shares no memory. -/
import Derived.Test.YtbjkaapkmemojaaPFnExactSourceRunx0
import Derived.Test.YtbjkaapkmemojaaPFnExactSourceRunx1
import Derived.Test.YtbjkaapkmemojaaPFnExactSourceRunx2
import Derived.Test.YtbjkaapkmemojaaPFnExactSourceRunx3
import Derived.Test.YtbjkaapkmemojaaPFnExactSourceRunx4
import Derived.Test.YtbjkaapkmemojaaPFnExactSourceRunx5
import Derived.Test.YtbjkaapkmemojaaPFnExactSourceRunx6
import Derived.Test.YtbjkaapkmemojaaPFnExactSourceRunx7
import Derived.Test.YtbjkaapkmemojaaPFnExactSourceRunx8
import Derived.Test.YtbjkaapkmemojaaPFnExactSourceRunx9
import Derived.Test.YtbjkaapkmemojaaPFnExactSourceRunx10
import Derived.Test.YtbjkaapkmemojaaPFnExactSourceRunx11
import Derived.Test.YtbjkaapkmemojaaPFnExactSourceRunx12
import Derived.Test.YtbjkaapkmemojaaPFnExactSourceRunx13
import Derived.Test.YtbjkaapkmemojaaPFnExactSourceRunx14
import Derived.Test.YtbjkaapkmemojaaPFnExactSourceRunx15
import Derived.Test.YtbjkaapkmemojaaMine
namespace Go.Proofs.Ytbjkaapkmemojaa.Pure
open Go.RowKit Go.Proofs.Ytbjkaapkmemojaa.PFnExactSourceRun Go.Proofs.YtbjkaapkmemojaaW.PrintWords Go.Proofs.YtbjkaapkmemojaaW.PrintLast Go.Proofs.YtbjkaapkmemojaaW.PrintMore Go.Proofs.Ytbjkaapkmemojaa.Mine


theorem FnExactSourceRun : ∀ (a0_0 : Int) (l0_1 : List (S70)) (a0_2 : Int) (l1 : List (Int)) (a2 : Int) (a3 : Int), (Lit.int .i64 a0_0).wf = true → (l0_1.length ≤ 9223372036854775807 ∧ ∀ a ∈ l0_1, ((Lit.int .i64 a.f0).wf = true) ∧ a.f1.length ≤ 9223372036854775807 ∧ ∀ b ∈ a.f1, (Lit.int .u8 b).wf = true) → (Lit.int .i64 a0_2).wf = true → l1.length ≤ 9223372036854775807 → (∀ a ∈ l1, (Lit.int .u8 a).wf = true) → (Lit.int .i64 a2).wf = true → (Lit.int .i64 a3).wf = true → ∃ k, laws_FnExactSourceRun.f k a0_0 l0_1 a0_2 l1 a2 a3 = some true := by
  intros
  exact ⟨0, rfl⟩

end Go.Proofs.Ytbjkaapkmemojaa.Pure
