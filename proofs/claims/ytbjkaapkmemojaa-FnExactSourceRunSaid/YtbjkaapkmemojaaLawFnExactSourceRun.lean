-- Written by a program of this session (wip/row.py).
import Derived.Test.YtbjkaapkmemojaaRows
import Derived.Test.YtbjkaapkmemojaaPFnExactSourceRunx15
import Derived.Test.YtbjkaapkmemojaaPureFnExactSourceRun
import Derived.Test.YtbjkaapkmemojaaOpen
import Derived.WalkKit
import Derived.ProofKit
import Derived.OpenShut
import Derived.ShutString
import Derived.ChangeOld
import Derived.Below
import Derived.Carry
import Derived.SizedLaws
namespace Go.Proofs.Ytbjkaapkmemojaa.fnExactSourceRun
open Go.ChangeShapes Go.WideShapes Go.ChangeAt Go.RowKit Go.Proofs.Ytbjkaapkmemojaa.Mine Go.Proofs.Ytbjkaapkmemojaa.PFnExactSourceRun Go.Proofs.YtbjkaapkmemojaaW.PrintWords
open Go.ChangeMaps (open_string shut_string)
set_option linter.unusedVariables false
theorem own : ownKnob Try.prog.godebug = none := by kernel_rfl
theorem laidOut : laidOutB Try.prog = true := by kernel_rfl
theorem opens70 : Opens Try.prog 70 k70 (fun x => ((Lit.int .i64 x.f0).wf = true) ∧ x.f1.length ≤ 9223372036854775807 ∧ ∀ a ∈ x.f1, (Lit.int .u8 a).wf = true) :=
  Opens.iso (fun x : S70 => (x.f0, x.f1)) (fun p => ⟨p.1, p.2⟩) (fun _ => rfl) (Opens.struct Try.underlying70 (by kernel_rfl) (FOpens.cons rfl (Opens.int Try.underlying3 (by kernel_rfl)) (FOpens.one rfl (Opens.slice 5 Try.underlying30 (by kernel_rfl) (Opens.int Try.underlying5 (by kernel_rfl))))))
theorem topens41 : Opens Try.prog 41 (Kd.pair (Kd.int .i64) (Kd.pair (Kd.slice 70 k70) (Kd.int .i64))) (fun x => ((Lit.int .i64 x.1).wf = true) ∧ (x.2.1.length ≤ 9223372036854775807 ∧ ∀ a ∈ x.2.1, ((Lit.int .i64 a.f0).wf = true) ∧ a.f1.length ≤ 9223372036854775807 ∧ ∀ b ∈ a.f1, (Lit.int .u8 b).wf = true) ∧ (Lit.int .i64 x.2.2).wf = true) :=
  Opens.struct Try.underlying41 (by kernel_rfl) (FOpens.cons rfl (Opens.int Try.underlying3 (by kernel_rfl)) (FOpens.cons rfl (Opens.slice 70 Try.underlying39 (by kernel_rfl) opens70) (FOpens.one rfl (Opens.int Try.underlying3 (by kernel_rfl)))))
set_option maxRecDepth 100000 in
theorem lifted (os : Os) (started : os.Started) (H : Type) (enc : TypeId × Value → H) :
    ReturnsInHanded {} Try.checked os 7 .any (Rows.fnExactSourceRunSpec.pre6 enc Try.prog Try.f7 Rows.fnExactSourceRunRow.domain false) (Rows.fnExactSourceRunSpec.post enc Try.prog Try.f7 false true false false) := by
  refine returnsInHanded_of_change_sized (C := Try.checked) own started (by kernel_rfl) Try.func7
    (ChangeSpec.witness6 (enc := enc) (C := Try.checked) false ⟨#[], #[.agg #[.int .i64 0, .slice none 0 0, .int .i64 0], .slice none 0 0, .int .i64 0, .int .i64 0], []⟩ 8 (by kernel_rfl) (by kernel_rfl) (by kernel_rfl) (by kernel_rfl)) ?_
  intro W base args ds gs before hval0 hW hcnd hsz0 _
  have hsz : (DataW.weightsEach Try.prog (Try.f7.params.toList ++ Rows.fnExactSourceRunSpec.plain.varTypes Try.prog) (ds ++ gs)).all (· ≤ reachBytes) = true := hsz0
  have hval : ∀ (j : Nat) t v, Try.f7.params[j]? = some t → args[j]? = some v → Value.okWide Try.prog W .any base t v := hval0
  have hW' := hW
  obtain ⟨p, q, hA0, hV, rfl, hfz, hnd⟩ := hW
  have hA : DataW.TrodAll enc Try.prog W 0 (fun _ => true) true Try.f7.params.toList args.toList ds p := hA0
  rw [Try.params7] at hA hval hsz
  obtain ⟨v0, vs0, d0, ds0, p0, q0, hargs, rfl, rfl, h0, r0⟩ := trodAll_cons hA
  obtain ⟨v1, vs1, d1, ds1, p1, q1, rfl, rfl, rfl, h1, r1⟩ := trodAll_cons r0
  obtain ⟨v2, vs2, d2, ds2, p2, q2, rfl, rfl, rfl, h2, r2⟩ := trodAll_cons r1
  obtain ⟨v3, vs3, d3, ds3, p3, q3, rfl, rfl, rfl, h3, r3⟩ := trodAll_cons r2
  obtain ⟨rfl, rfl, rfl⟩ := trodAll_nil r3
  obtain rfl : args = #[v0, v1, v2, v3] := by cases args; simp_all
  obtain ⟨rfl, rfl⟩ := trodVars_none hV
  obtain ⟨cs0, rfl, cz0⟩ := okWide_struct Try.underlying41 (hval 0 41 v0 rfl rfl)
  have kk0 := h0
  have lt0 : ∀ x ∈ p0, x.block < W.heap.size := by obtain ⟨m, hm⟩ := kk0; exact DataW.trod_lt m _ _ _ hm
  obtain ⟨x0, K0, g0⟩ := Opens.arg_struct topens41 h0
  obtain ⟨_, _, E0, rfl, ⟨_, _, rfl, ⟨A0_1, c0_1, rfl, z0_1, C0_1⟩, rfl⟩⟩ := K0
  obtain rfl : cs0 = #[.int .i64 x0.1, .slice A0_1 x0.2.1.length c0_1, .int .i64 x0.2.2] := by cases cs0; simp_all
  obtain ⟨A1, n1, c1, rfl⟩ := okWide_slice Try.underlying30 (hval 1 30 v1 rfl rfl)
  have kk1 := h1
  have lt1 : ∀ x ∈ p1, x.block < W.heap.size := by obtain ⟨m, hm⟩ := kk1; exact DataW.trod_lt m _ _ _ hm
  obtain ⟨l1, e1, z1, C1, b1, g1⟩ := Opens.arg_slice 5 Try.underlying30 (by kernel_rfl) (Opens.int Try.underlying5 (by kernel_rfl)) h1
  subst e1
  obtain ⟨a2, rfl, rfl, rfl, w2⟩ := open_int Try.underlying3 (hval 2 3 v2 rfl rfl) h2
  obtain ⟨a3, rfl, rfl, rfl, w3⟩ := open_int Try.underlying3 (hval 3 3 v3 rfl rfl) h3
  clear hA0 hval0 hsz0 hsz
  obtain ⟨k, hk⟩ := Pure.FnExactSourceRun x0.1 x0.2.1 x0.2.2 l1 a2 a3 g0.1 g0.2.1 g0.2.2 b1 g1 w2 w3
  refine (laws_FnExactSourceRun.calls k x0.1 A0_1 c0_1 x0.2.1 x0.2.2 A1 c1 l1 a2 a3 true W C0_1 z0_1 C1 z1 hk).mono fun e W' ⟨he, bel⟩ => ?_
  subst he
  exact ⟨_, rfl, _, _, _, [], _, [], hW', trodAll_mk1 (shut_bool Try.underlying4 _), (trodAll_cons_mk (Below.trod laidOut (by kernel_rfl) (of_decide_eq_true (by kernel_rfl)) kk0 bel lt0) (trodAll_cons_mk (Below.trod laidOut (by kernel_rfl) (of_decide_eq_true (by kernel_rfl)) kk1 bel lt1) (trodAll_cons_mk (shut_int Try.underlying3 w2) (trodAll_cons_mk (shut_int Try.underlying3 w3) trodAll_mk0)))), rfl, bel.frame _, fun h => by cases h⟩
theorem over : Rows.fnExactSourceRunRow.holds Try.pinned (OpenSpec.ofChange Rows.fnExactSourceRunSpec) :=
  OpenClaim.holds_of_wide 7 Try.f7 rfl rfl rfl rfl rfl rfl rfl ⟨rfl, rfl, rfl, rfl, rfl⟩ rfl rfl rfl rfl rfl (by kernel_rfl) Try.func7 (by kernel_rfl)
    (of_decide_eq_true (by kernel_rfl)) (by unfold Func.isWrapper; first | (rw [if_pos (by decide +kernel)]; kernel_rfl) | (rw [if_neg (by decide +kernel)]; exact ⟨rfl, rfl⟩))
    (fun os started H enc _ => lifted os started H enc)
theorem proved : Rows.FnExactSourceRunSaid := over
#print axioms proved
end Go.Proofs.Ytbjkaapkmemojaa.fnExactSourceRun
namespace Go.Proofs.Ytbjkaapkmemojaa
/-- The row, under a short name, for the claim. -/
theorem fnExactSourceRun_holds : Rows.FnExactSourceRunSaid := fnExactSourceRun.proved
end Go.Proofs.Ytbjkaapkmemojaa
