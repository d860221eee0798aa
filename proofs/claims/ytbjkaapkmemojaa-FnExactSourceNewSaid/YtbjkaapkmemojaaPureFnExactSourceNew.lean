/- The statement FnExactSourceNew, for every input. -/
import Derived.Test.YtbjkaapkmemojaaPFnExactSourceNewx0
import Derived.Test.YtbjkaapkmemojaaPFnExactSourceNewx1
import Derived.Test.YtbjkaapkmemojaaPFnExactSourceNewx2
import Derived.Test.YtbjkaapkmemojaaMine
namespace Go.Proofs.Ytbjkaapkmemojaa.Pure
open Go.RowKit Go.Proofs.Ytbjkaapkmemojaa.PFnExactSourceNew Go.Proofs.YtbjkaapkmemojaaW.PrintWords Go.Proofs.YtbjkaapkmemojaaW.PrintLast Go.Proofs.YtbjkaapkmemojaaW.PrintMore Go.Proofs.Ytbjkaapkmemojaa.Mine

theorem impl_within_ok (a b c : Int) : impl_within.f a b c = some (decide (b ≤ a ∧ a ≤ c)) := by
  unfold impl_within.f
  by_cases h : a ≥ b
  · rw [if_pos h]; simp only [Option.some.injEq, decide_eq_decide]; omega
  · rw [if_neg h]; simp only [Option.some.injEq]; symm; simp only [decide_eq_false_iff_not]; omega

theorem laws_eqByteS_l0 (l : List Int) (hl : l.length ≤ 1048576) (d : Nat) : ∀ (k : Nat) (i : Int), 0 ≤ i → (l.length : Int) - i = d → d < k → laws_eqByteS.l0 k l l i = some true := by
  induction d with
  | zero =>
    intro k i h0 hd hk
    obtain ⟨k, rfl⟩ : ∃ m, k = m + 1 := ⟨k - 1, by omega⟩
    rw [laws_eqByteS.l0, if_neg (by omega)]
  | succ d ih =>
    intro k i h0 hd hk
    obtain ⟨k, rfl⟩ : ∃ m, k = m + 1 := ⟨k - 1, by omega⟩
    rw [laws_eqByteS.l0, if_pos (by omega), if_pos h0, if_pos (by omega), if_pos rfl, w64 (by omega) (by omega)]
    exact ih k (i + 1) (by omega) (by omega) (by omega)
theorem laws_eqByteS_ok (l : List Int) (hl : l.length ≤ 1048576) (k : Nat) (hk : l.length < k) : laws_eqByteS.f k l l = some true := by
  unfold laws_eqByteS.f
  rw [if_pos rfl]
  exact laws_eqByteS_l0 l hl l.length k 0 (by omega) (by omega) hk

theorem FnExactSourceNew : ∀ (a0 : Int), (Lit.int .i64 a0).wf = true → ∃ k, laws_FnExactSourceNew.f k a0 = some true := fun _ _ => ⟨0, rfl⟩

end Go.Proofs.Ytbjkaapkmemojaa.Pure
