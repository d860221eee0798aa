-- Written by a program of this session (wip/row.py).
import Derived.Test.YtnkbmfbmcpdcpaaRows
import Derived.Test.YtnkbmfbmcpdcpaaPFnExactHandleOkx2
import Derived.Test.YtnkbmfbmcpdcpaaPureFnExactHandleOk
import Derived.Test.YtnkbmfbmcpdcpaaOpen
import Derived.WalkKit
import Derived.ProofKit
import Derived.OpenShut
import Derived.ShutString
import Derived.ChangeOld
import Derived.Below
import Derived.Carry
import Derived.SizedLaws
namespace Go.Proofs.Ytnkbmfbmcpdcpaa.fnExactHandleOk
open Go.ChangeShapes Go.WideShapes Go.ChangeAt Go.RowKit Go.Proofs.Ytnkbmfbmcpdcpaa.Mine Go.Proofs.Ytnkbmfbmcpdcpaa.PFnExactHandleOk Go.Proofs.YtnkbmfbmcpdcpaaW.PrintWords
open Go.ChangeMaps (open_string shut_string)
set_option linter.unusedVariables false
theorem own : ownKnob Try.prog.godebug = none := by kernel_rfl
theorem laidOut : laidOutB Try.prog = true := by kernel_rfl
theorem topens28 : Opens Try.prog 28 (Kd.pair Kd.string Kd.string) (fun x => (x.1.size ≤ 9223372036854775807) ∧ x.2.size ≤ 9223372036854775807) :=
  Opens.struct Try.underlying28 (by kernel_rfl) (FOpens.cons rfl (Opens.string Try.underlying9 (by kernel_rfl)) (FOpens.one rfl (Opens.string Try.underlying9 (by kernel_rfl))))
set_option maxRecDepth 100000 in
theorem lifted (os : Os) (started : os.Started) (H : Type) (enc : TypeId × Value → H) :
    ReturnsInHanded {} Try.checked os 7 .any (Rows.fnExactHandleOkSpec.pre6 enc Try.prog Try.f7 Rows.fnExactHandleOkRow.domain false) (Rows.fnExactHandleOkSpec.post enc Try.prog Try.f7 false true false false) := by
  refine returnsInHanded_of_change_sized (C := Try.checked) own started (by kernel_rfl) Try.func7
    (ChangeSpec.witness6 (enc := enc) (C := Try.checked) false ⟨#[], #[.agg #[.string ByteArray.empty, .string ByteArray.empty]], []⟩ 8 (by kernel_rfl) (by kernel_rfl) (by kernel_rfl) (by kernel_rfl)) ?_
  intro W base args ds gs before hval0 hW hcnd hsz0 _
  have hsz : (DataW.weightsEach Try.prog (Try.f7.params.toList ++ Rows.fnExactHandleOkSpec.plain.varTypes Try.prog) (ds ++ gs)).all (· ≤ reachBytes) = true := hsz0
  have hval : ∀ (j : Nat) t v, Try.f7.params[j]? = some t → args[j]? = some v → Value.okWide Try.prog W .any base t v := hval0
  have hW' := hW
  obtain ⟨p, q, hA0, hV, rfl, hfz, hnd⟩ := hW
  have hA : DataW.TrodAll enc Try.prog W 0 (fun _ => true) true Try.f7.params.toList args.toList ds p := hA0
  rw [Try.params7] at hA hval hsz
  obtain ⟨v0, vs0, d0, ds0, p0, q0, hargs, rfl, rfl, h0, r0⟩ := trodAll_cons hA
  obtain ⟨rfl, rfl, rfl⟩ := trodAll_nil r0
  obtain rfl : args = #[v0] := by cases args; simp_all
  obtain ⟨rfl, rfl⟩ := trodVars_none hV
  obtain ⟨cs0, rfl, cz0⟩ := okWide_struct Try.underlying28 (hval 0 28 v0 rfl rfl)
  have kk0 := h0
  have lt0 : ∀ x ∈ p0, x.block < W.heap.size := by obtain ⟨m, hm⟩ := kk0; exact DataW.trod_lt m _ _ _ hm
  obtain ⟨x0, K0, g0⟩ := Opens.arg_struct topens28 h0
  obtain ⟨_, _, E0, rfl, rfl⟩ := K0
  obtain rfl : cs0 = #[.string x0.1, .string x0.2] := by cases cs0; simp_all
  clear hA0 hval0 hsz0 hsz
  obtain ⟨k, hk⟩ := Pure.FnExactHandleOk x0.1 x0.2 g0.1 g0.2
  refine (laws_FnExactHandleOk.calls k x0.1 x0.2 true W hk).mono fun e W' ⟨he, bel⟩ => ?_
  subst he
  exact ⟨_, rfl, _, _, _, [], _, [], hW', trodAll_mk1 (shut_bool Try.underlying4 _), (trodAll_cons_mk (Below.trod laidOut (by kernel_rfl) (of_decide_eq_true (by kernel_rfl)) kk0 bel lt0) trodAll_mk0), rfl, bel.frame _, fun h => by cases h⟩
theorem over : Rows.fnExactHandleOkRow.holds Try.pinned (OpenSpec.ofChange Rows.fnExactHandleOkSpec) :=
  OpenClaim.holds_of_wide 7 Try.f7 rfl rfl rfl rfl rfl rfl rfl ⟨rfl, rfl, rfl, rfl, rfl⟩ rfl rfl rfl rfl rfl (by kernel_rfl) Try.func7 (by kernel_rfl)
    (of_decide_eq_true (by kernel_rfl)) (by unfold Func.isWrapper; first | (rw [if_pos (by decide +kernel)]; kernel_rfl) | (rw [if_neg (by decide +kernel)]; exact ⟨rfl, rfl⟩))
    (fun os started H enc _ => lifted os started H enc)
theorem proved : Rows.FnExactHandleOkSaid := over
#print axioms proved
end Go.Proofs.Ytnkbmfbmcpdcpaa.fnExactHandleOk
namespace Go.Proofs.Ytnkbmfbmcpdcpaa
/-- The row, under a short name, for the claim. -/
theorem fnExactHandleOk_holds : Rows.FnExactHandleOkSaid := fnExactHandleOk.proved
end Go.Proofs.Ytnkbmfbmcpdcpaa
