-- Written by a program of this session, out of the translation.
import Derived.Test.YtmkfodlmddbdeaaPFnLinesx0
import Derived.Test.YtmkfodlmddbdeaaPFnLinesx5
import Derived.Test.YtmkfodlmddbdeaaPFnLinesx6
namespace Go.Proofs.Ytmkfodlmddbdeaa.PFnLines
open Go.RowKit Go.Proofs.YtmkfodlmddbdeaaW.PrintWords Go.Proofs.YtmkfodlmddbdeaaW.PrintLast Go.Proofs.YtmkfodlmddbdeaaW.PrintMore
attribute [local go_sem] max2_int min2_int max_two min_two max_three min_three max_four min_four   -- for this text's walks alone
set_option linter.unusedVariables false
set_option linter.unusedSimpArgs false

/-! ### laws_FnLines: function 3 -/
def laws_FnLines.j0 : Nat → ByteArray → Int → Int → Int → Int → Bool → Option (Bool)
  | 0, _, _, _, _, _, _ => none
  | k + 1, x3, x4, x5, x6, x7, x75 => if x75 = true then (some false) else ((impl_Rest.f k x3 x4).bind fun bt456 => (if bt456.1 ≥ x4 then (if bt456.2 = true then (if bt456.1 = x6 then ((impl_Lone.f k x3 x4).bind fun t458 => (if t458 = true then ((impl_White.f k x3 x5).bind fun t459 => (if t459 = x6 then (if x4 < (x3.size : Int) then (some true) else (some (x7 == (x3.size : Int)))) else (some false))) else (if x4 < (x3.size : Int) then (some true) else (some (x7 == (x3.size : Int)))))) else (some false)) else ((impl_Lone.f k x3 x4).bind fun t460 => (if t460 = true then ((impl_White.f k x3 x5).bind fun t461 => (if t461 = x6 then (if x4 < (x3.size : Int) then (some true) else (some (x7 == (x3.size : Int)))) else (some false))) else (if x4 < (x3.size : Int) then (some true) else (some (x7 == (x3.size : Int))))))) else (some false)))
def laws_FnLines.f (k : Nat) (l0 : List Int) : Option (Bool) := if (l0.length : Int) > 1048576 then (some true) else ((spec_MakeAnyText.f k l0).bind fun t447 => ((spec_MakeNum.f k l0 (wrap64 ((t447.size : Int) + 1))).bind fun t448 => ((impl_LineAt.f k t447 t448).bind fun t449 => ((impl_EndAt.f t447 t448).bind fun t450 => ((impl_Gap.f k t447 t448).bind fun t451 => ((impl_White.f k t447 t448).bind fun t452 => (if t449 > t448 then (laws_FnLines.j0 k t447 t448 t449 t450 t451 true) else (if t450 < t448 then (laws_FnLines.j0 k t447 t448 t449 t450 t451 true) else ((impl_Col.f k t447 t448).bind fun t453 => (if t453 = (wrap64 (t448 - t449)) then (if t451 < t452 then (laws_FnLines.j0 k t447 t448 t449 t450 t451 true) else (if t452 < t448 then (laws_FnLines.j0 k t447 t448 t449 t450 t451 true) else ((impl_Gap.f k t447 t451).bind fun t454 => (if t454 = t451 then ((impl_IndentAt.f k t447 t448).bind fun t455 => (laws_FnLines.j0 k t447 t448 t449 t450 t451 (decide (t455 > (wrap64 (t450 - t449)))))) else (laws_FnLines.j0 k t447 t448 t449 t450 t451 true))))) else (laws_FnLines.j0 k t447 t448 t449 t450 t451 true)))))))))))
theorem laws_FnLines.mono_l : ∀ k, (∀ y0 y1 y2 y3 y4 y5, LeO (laws_FnLines.j0 k y0 y1 y2 y3 y4 y5) (laws_FnLines.j0 (k + 1) y0 y1 y2 y3 y4 y5))
  | 0 => fun _ _ _ _ _ _ r h => by simp [laws_FnLines.j0] at h
  | k + 1 => by
    have ih0 := laws_FnLines.mono_l k
    · intro y0 y1 y2 y3 y4 y5
      unfold laws_FnLines.j0
      repeat' first
      | (with_reducible exact ih0 _ _ _ _ _ _)
      | (with_reducible exact impl_Col.mono _ _ _)
      | (with_reducible exact impl_Gap.mono _ _ _)
      | (with_reducible exact impl_IndentAt.mono _ _ _)
      | (with_reducible exact impl_LineAt.mono _ _ _)
      | (with_reducible exact impl_Lone.mono _ _ _)
      | (with_reducible exact impl_Rest.mono _ _ _)
      | (with_reducible exact impl_White.mono _ _ _)
      | (with_reducible exact spec_MakeAnyText.mono _ _)
      | (with_reducible exact spec_MakeNum.mono _ _ _)
      | (with_reducible exact LeO.refl _)
      | (with_reducible exact LeO.none _)
      | (with_reducible refine LeO.ite ?_ ?_)
      | (with_reducible refine LeO.bind ?_ (fun _ => ?_))
      | exact ih0 _ _ _ _ _ _
      | exact impl_Col.mono _ _ _
      | exact impl_Gap.mono _ _ _
      | exact impl_IndentAt.mono _ _ _
      | exact impl_LineAt.mono _ _ _
      | exact impl_Lone.mono _ _ _
      | exact impl_Rest.mono _ _ _
      | exact impl_White.mono _ _ _
      | exact spec_MakeAnyText.mono _ _
      | exact spec_MakeNum.mono _ _ _
      | exact LeO.none _
      | refine LeO.ite ?_ ?_
      | refine LeO.bind ?_ (fun _ => ?_)
theorem laws_FnLines.mono : ∀ a0 k, LeO (laws_FnLines.f k a0) (laws_FnLines.f (k + 1) a0) := by
  intro a0 k
  have ih0 := laws_FnLines.mono_l k
  unfold laws_FnLines.f
  repeat' first
      | (with_reducible exact ih0 _ _ _ _ _ _)
      | (with_reducible exact impl_Col.mono _ _ _)
      | (with_reducible exact impl_Gap.mono _ _ _)
      | (with_reducible exact impl_IndentAt.mono _ _ _)
      | (with_reducible exact impl_LineAt.mono _ _ _)
      | (with_reducible exact impl_Lone.mono _ _ _)
      | (with_reducible exact impl_Rest.mono _ _ _)
      | (with_reducible exact impl_White.mono _ _ _)
      | (with_reducible exact spec_MakeAnyText.mono _ _)
      | (with_reducible exact spec_MakeNum.mono _ _ _)
      | (with_reducible exact LeO.refl _)
      | (with_reducible exact LeO.none _)
      | (with_reducible refine LeO.ite ?_ ?_)
      | (with_reducible refine LeO.bind ?_ (fun _ => ?_))
      | exact ih0 _ _ _ _ _ _
      | exact impl_Col.mono _ _ _
      | exact impl_Gap.mono _ _ _
      | exact impl_IndentAt.mono _ _ _
      | exact impl_LineAt.mono _ _ _
      | exact impl_Lone.mono _ _ _
      | exact impl_Rest.mono _ _ _
      | exact impl_White.mono _ _ _
      | exact spec_MakeAnyText.mono _ _
      | exact spec_MakeNum.mono _ _ _
      | exact LeO.none _
      | refine LeO.ite ?_ ?_
      | refine LeO.bind ?_ (fun _ => ?_)
set_option maxHeartbeats 8000000 in
set_option maxRecDepth 100000 in
theorem laws_FnLines.calls (k : Nat) (A0 : Option Addr) (c0 : Nat) (l0 : List Int) (r : Bool) (w : World) (hr0 : Kd.C (Kd.int .u8) w A0 l0.length l0) (hc0 : l0.length ≤ c0) (h : laws_FnLines.f k l0 = some r) :
    Calls Try.prog 3 #[.slice A0 l0.length c0] w fun e w' => e = .returned (.bool r) ∧ Below w.heap.size w w' := by
  have HR0 := Aside0.mk hr0
  have HC0 := Aside0.mk hc0
  clear hr0 hc0
  have HB := Aside0.mk (Below.refl w.heap.size w)
  have H : (if (l0.length : Int) > 1048576 then (some true) else ((spec_MakeAnyText.f k l0).bind fun t447 => ((spec_MakeNum.f k l0 (wrap64 ((t447.size : Int) + 1))).bind fun t448 => ((impl_LineAt.f k t447 t448).bind fun t449 => ((impl_EndAt.f t447 t448).bind fun t450 => ((impl_Gap.f k t447 t448).bind fun t451 => ((impl_White.f k t447 t448).bind fun t452 => (if t449 > t448 then (laws_FnLines.j0 k t447 t448 t449 t450 t451 true) else (if t450 < t448 then (laws_FnLines.j0 k t447 t448 t449 t450 t451 true) else ((impl_Col.f k t447 t448).bind fun t453 => (if t453 = (wrap64 (t448 - t449)) then (if t451 < t452 then (laws_FnLines.j0 k t447 t448 t449 t450 t451 true) else (if t452 < t448 then (laws_FnLines.j0 k t447 t448 t449 t450 t451 true) else ((impl_Gap.f k t447 t451).bind fun t454 => (if t454 = t451 then ((impl_IndentAt.f k t447 t448).bind fun t455 => (laws_FnLines.j0 k t447 t448 t449 t450 t451 (decide (t455 > (wrap64 (t450 - t449)))))) else (laws_FnLines.j0 k t447 t448 t449 t450 t451 true))))) else (laws_FnLines.j0 k t447 t448 t449 t450 t451 true)))))))))))) = some r := h
  clear h
  by_cases c2 : (l0.length : Int) > 1048576
  · rw [if_pos c2] at H
    have c2b0 : decide (1048576 < (l0.length : Int)) = true := decide_eq_true c2
    have c2b1 : decide (1048576 < l0.length) = true := decide_eq_true (by omega)
    clear c2
    obtain rfl := Option.some.inj H
    go_enter Try.func3, Try.ntmps3
    go_wp2
    go_ret
    exact ⟨by first | rfl | (simp [errW_none, errW_some] <;> rfl) | (simp [*, errW_none, errW_some] <;> rfl), by repeat (first | (with_reducible first | exact HB.out | apply below_alloc | apply pw_below_drewN | apply below_drew1) | exact HB.out)⟩
  · rw [if_neg c2] at H
    have c2b0 : decide (1048576 < (l0.length : Int)) = false := decide_eq_false c2
    have c2b1 : decide (1048576 < l0.length) = false := decide_eq_false (by omega)
    clear c2
    replace H := Option.bind_eq_some_iff.mp H
    obtain ⟨t447, A30, H⟩ := H
    replace H : ((spec_MakeNum.f k l0 (wrap64 ((t447.size : Int) + 1))).bind fun t448 => ((impl_LineAt.f k t447 t448).bind fun t449 => ((impl_EndAt.f t447 t448).bind fun t450 => ((impl_Gap.f k t447 t448).bind fun t451 => ((impl_White.f k t447 t448).bind fun t452 => (if t449 > t448 then (laws_FnLines.j0 k t447 t448 t449 t450 t451 true) else (if t450 < t448 then (laws_FnLines.j0 k t447 t448 t449 t450 t451 true) else ((impl_Col.f k t447 t448).bind fun t453 => (if t453 = (wrap64 (t448 - t449)) then (if t451 < t452 then (laws_FnLines.j0 k t447 t448 t449 t450 t451 true) else (if t452 < t448 then (laws_FnLines.j0 k t447 t448 t449 t450 t451 true) else ((impl_Gap.f k t447 t451).bind fun t454 => (if t454 = t451 then ((impl_IndentAt.f k t447 t448).bind fun t455 => (laws_FnLines.j0 k t447 t448 t449 t450 t451 (decide (t455 > (wrap64 (t450 - t449)))))) else (laws_FnLines.j0 k t447 t448 t449 t450 t451 true))))) else (laws_FnLines.j0 k t447 t448 t449 t450 t451 true)))))))))) = some r := H
    have A3 := Aside0.mk A30
    clear A30
    replace H := Option.bind_eq_some_iff.mp H
    obtain ⟨t448, A40, H⟩ := H
    replace H : ((impl_LineAt.f k t447 t448).bind fun t449 => ((impl_EndAt.f t447 t448).bind fun t450 => ((impl_Gap.f k t447 t448).bind fun t451 => ((impl_White.f k t447 t448).bind fun t452 => (if t449 > t448 then (laws_FnLines.j0 k t447 t448 t449 t450 t451 true) else (if t450 < t448 then (laws_FnLines.j0 k t447 t448 t449 t450 t451 true) else ((impl_Col.f k t447 t448).bind fun t453 => (if t453 = (wrap64 (t448 - t449)) then (if t451 < t452 then (laws_FnLines.j0 k t447 t448 t449 t450 t451 true) else (if t452 < t448 then (laws_FnLines.j0 k t447 t448 t449 t450 t451 true) else ((impl_Gap.f k t447 t451).bind fun t454 => (if t454 = t451 then ((impl_IndentAt.f k t447 t448).bind fun t455 => (laws_FnLines.j0 k t447 t448 t449 t450 t451 (decide (t455 > (wrap64 (t450 - t449)))))) else (laws_FnLines.j0 k t447 t448 t449 t450 t451 true))))) else (laws_FnLines.j0 k t447 t448 t449 t450 t451 true))))))))) = some r := H
    have A4 := Aside0.mk A40
    clear A40
    replace H := Option.bind_eq_some_iff.mp H
    obtain ⟨t449, A50, H⟩ := H
    replace H : ((impl_EndAt.f t447 t448).bind fun t450 => ((impl_Gap.f k t447 t448).bind fun t451 => ((impl_White.f k t447 t448).bind fun t452 => (if t449 > t448 then (laws_FnLines.j0 k t447 t448 t449 t450 t451 true) else (if t450 < t448 then (laws_FnLines.j0 k t447 t448 t449 t450 t451 true) else ((impl_Col.f k t447 t448).bind fun t453 => (if t453 = (wrap64 (t448 - t449)) then (if t451 < t452 then (laws_FnLines.j0 k t447 t448 t449 t450 t451 true) else (if t452 < t448 then (laws_FnLines.j0 k t447 t448 t449 t450 t451 true) else ((impl_Gap.f k t447 t451).bind fun t454 => (if t454 = t451 then ((impl_IndentAt.f k t447 t448).bind fun t455 => (laws_FnLines.j0 k t447 t448 t449 t450 t451 (decide (t455 > (wrap64 (t450 - t449)))))) else (laws_FnLines.j0 k t447 t448 t449 t450 t451 true))))) else (laws_FnLines.j0 k t447 t448 t449 t450 t451 true)))))))) = some r := H
    have A5 := Aside0.mk A50
    clear A50
    replace H := Option.bind_eq_some_iff.mp H
    obtain ⟨t450, A60, H⟩ := H
    replace H : ((impl_Gap.f k t447 t448).bind fun t451 => ((impl_White.f k t447 t448).bind fun t452 => (if t449 > t448 then (laws_FnLines.j0 k t447 t448 t449 t450 t451 true) else (if t450 < t448 then (laws_FnLines.j0 k t447 t448 t449 t450 t451 true) else ((impl_Col.f k t447 t448).bind fun t453 => (if t453 = (wrap64 (t448 - t449)) then (if t451 < t452 then (laws_FnLines.j0 k t447 t448 t449 t450 t451 true) else (if t452 < t448 then (laws_FnLines.j0 k t447 t448 t449 t450 t451 true) else ((impl_Gap.f k t447 t451).bind fun t454 => (if t454 = t451 then ((impl_IndentAt.f k t447 t448).bind fun t455 => (laws_FnLines.j0 k t447 t448 t449 t450 t451 (decide (t455 > (wrap64 (t450 - t449)))))) else (laws_FnLines.j0 k t447 t448 t449 t450 t451 true))))) else (laws_FnLines.j0 k t447 t448 t449 t450 t451 true))))))) = some r := H
    have A6 := Aside0.mk A60
    clear A60
    replace H := Option.bind_eq_some_iff.mp H
    obtain ⟨t451, A70, H⟩ := H
    replace H : ((impl_White.f k t447 t448).bind fun t452 => (if t449 > t448 then (laws_FnLines.j0 k t447 t448 t449 t450 t451 true) else (if t450 < t448 then (laws_FnLines.j0 k t447 t448 t449 t450 t451 true) else ((impl_Col.f k t447 t448).bind fun t453 => (if t453 = (wrap64 (t448 - t449)) then (if t451 < t452 then (laws_FnLines.j0 k t447 t448 t449 t450 t451 true) else (if t452 < t448 then (laws_FnLines.j0 k t447 t448 t449 t450 t451 true) else ((impl_Gap.f k t447 t451).bind fun t454 => (if t454 = t451 then ((impl_IndentAt.f k t447 t448).bind fun t455 => (laws_FnLines.j0 k t447 t448 t449 t450 t451 (decide (t455 > (wrap64 (t450 - t449)))))) else (laws_FnLines.j0 k t447 t448 t449 t450 t451 true))))) else (laws_FnLines.j0 k t447 t448 t449 t450 t451 true)))))) = some r := H
    have A7 := Aside0.mk A70
    clear A70
    replace H := Option.bind_eq_some_iff.mp H
    obtain ⟨t452, A80, H⟩ := H
    replace H : (if t449 > t448 then (laws_FnLines.j0 k t447 t448 t449 t450 t451 true) else (if t450 < t448 then (laws_FnLines.j0 k t447 t448 t449 t450 t451 true) else ((impl_Col.f k t447 t448).bind fun t453 => (if t453 = (wrap64 (t448 - t449)) then (if t451 < t452 then (laws_FnLines.j0 k t447 t448 t449 t450 t451 true) else (if t452 < t448 then (laws_FnLines.j0 k t447 t448 t449 t450 t451 true) else ((impl_Gap.f k t447 t451).bind fun t454 => (if t454 = t451 then ((impl_IndentAt.f k t447 t448).bind fun t455 => (laws_FnLines.j0 k t447 t448 t449 t450 t451 (decide (t455 > (wrap64 (t450 - t449)))))) else (laws_FnLines.j0 k t447 t448 t449 t450 t451 true))))) else (laws_FnLines.j0 k t447 t448 t449 t450 t451 true))))) = some r := H
    have A8 := Aside0.mk A80
    clear A80
    have HC9 := Aside0.mk H
    clear H
    go_enter Try.func3, Try.ntmps3
    go_upto_region 9 with (first | ((with_reducible refine gate_callee (f := 4) rfl ?_); refine goesL_ (some 15) rfl rfl Try.func4 (by kernel_rfl) rfl #[.slice A0 l0.length c0] rfl (by (try simp only [List.map_toArray, List.map_cons, List.map_nil]); first | done | rfl | (simp only [List.length_drop, List.length_take]; rfl)) ?_; (with_reducible refine (spec_MakeAnyText.calls k _ _ l0 t447 _ ?side1 ?side2 A3.out).mono ?_); (case side1 => repeat (first | exact HR0.out | (with_reducible refine Kd.C_alloc ?_ _) | (with_reducible refine Kd.C_drewN ?_ _) | (with_reducible refine Kd.C_drew ?_))); (case side2 => exact HC0.out); rintro e w10 ⟨rfl, hb⟩; refine ⟨_, rfl, ?_⟩; have n0_ := Aside0.mk (below_step (by repeat (first | (with_reducible first | exact HB.out | apply below_alloc | apply pw_below_drewN | apply below_drew1) | exact HB.out)) hb); clear HB; have HB := n0_; clear n0_; (try clear hb); (try clear hb2); (try clear hk); (try clear hi)) | ((with_reducible refine gate_callee (f := 5) rfl ?_); refine goesL_ (some 20) rfl rfl Try.func5 (by kernel_rfl) rfl #[.slice A0 l0.length c0, .int .i64 (wrap64 ((t447.size : Int) + 1))] rfl (by (try simp only [List.map_toArray, List.map_cons, List.map_nil]); first | done | rfl | (simp only [List.length_drop, List.length_take]; rfl)) ?_; (with_reducible refine (spec_MakeNum.calls k _ _ l0 (wrap64 ((t447.size : Int) + 1)) t448 _ ?side1 ?side2 A4.out).mono ?_); (case side1 => repeat (first | exact (Kd.C_below HR0.out HB.out) | (with_reducible refine Kd.C_alloc ?_ _) | (with_reducible refine Kd.C_drewN ?_ _) | (with_reducible refine Kd.C_drew ?_))); (case side2 => exact HC0.out); rintro e w11 ⟨rfl, hb⟩; refine ⟨_, rfl, ?_⟩; have n0_ := Aside0.mk (below_step (by repeat (first | (with_reducible first | exact HB.out | apply below_alloc | apply pw_below_drewN | apply below_drew1) | exact HB.out)) hb); clear HB; have HB := n0_; clear n0_; (try clear hb); (try clear hb2); (try clear hk); (try clear hi)) | ((with_reducible refine gate_callee (f := 6) rfl ?_); refine goesL_ (some 23) rfl rfl Try.func6 (by kernel_rfl) rfl #[.string t447, .int .i64 t448] rfl (by (try simp only [List.map_toArray, List.map_cons, List.map_nil]); first | done | rfl | (simp only [List.length_drop, List.length_take]; rfl)) ?_; (with_reducible refine (impl_LineAt.calls k t447 t448 t449 _ A5.out).mono ?_); rintro e w12 ⟨rfl, hb⟩; refine ⟨_, rfl, ?_⟩; have n0_ := Aside0.mk (below_step (by repeat (first | (with_reducible first | exact HB.out | apply below_alloc | apply pw_below_drewN | apply below_drew1) | exact HB.out)) hb); clear HB; have HB := n0_; clear n0_; (try clear hb); (try clear hb2); (try clear hk); (try clear hi)) | ((with_reducible refine gate_callee (f := 7) rfl ?_); refine goesL_ (some 26) rfl rfl Try.func7 (by kernel_rfl) rfl #[.string t447, .int .i64 t448] rfl (by (try simp only [List.map_toArray, List.map_cons, List.map_nil]); first | done | rfl | (simp only [List.length_drop, List.length_take]; rfl)) ?_; (with_reducible refine (impl_EndAt.calls t447 t448 t450 _ A6.out).mono ?_); rintro e w13 ⟨rfl, hb⟩; refine ⟨_, rfl, ?_⟩; have n0_ := Aside0.mk (below_step (by repeat (first | (with_reducible first | exact HB.out | apply below_alloc | apply pw_below_drewN | apply below_drew1) | exact HB.out)) hb); clear HB; have HB := n0_; clear n0_; (try clear hb); (try clear hb2); (try clear hk); (try clear hi)) | ((with_reducible refine gate_callee (f := 8) rfl ?_); refine goesL_ (some 29) rfl rfl Try.func8 (by kernel_rfl) rfl #[.string t447, .int .i64 t448] rfl (by (try simp only [List.map_toArray, List.map_cons, List.map_nil]); first | done | rfl | (simp only [List.length_drop, List.length_take]; rfl)) ?_; (with_reducible refine (impl_Gap.calls k t447 t448 t451 _ A7.out).mono ?_); rintro e w14 ⟨rfl, hb⟩; refine ⟨_, rfl, ?_⟩; have n0_ := Aside0.mk (below_step (by repeat (first | (with_reducible first | exact HB.out | apply below_alloc | apply pw_below_drewN | apply below_drew1) | exact HB.out)) hb); clear HB; have HB := n0_; clear n0_; (try clear hb); (try clear hb2); (try clear hk); (try clear hi)) | ((with_reducible refine gate_callee (f := 9) rfl ?_); refine goesL_ (some 32) rfl rfl Try.func9 (by kernel_rfl) rfl #[.string t447, .int .i64 t448] rfl (by (try simp only [List.map_toArray, List.map_cons, List.map_nil]); first | done | rfl | (simp only [List.length_drop, List.length_take]; rfl)) ?_; (with_reducible refine (impl_White.calls k t447 t448 t452 _ A8.out).mono ?_); rintro e w15 ⟨rfl, hb⟩; refine ⟨_, rfl, ?_⟩; have n0_ := Aside0.mk (below_step (by repeat (first | (with_reducible first | exact HB.out | apply below_alloc | apply pw_below_drewN | apply below_drew1) | exact HB.out)) hb); clear HB; have HB := n0_; clear n0_; (try clear hb); (try clear hb2); (try clear hk); (try clear hi)))
    (try simp only [Act.put, List.setIfInBounds_toArray, List.set_cons_zero, List.set_cons_succ])
    go_cut [75] (fun v75 wc => ∃ (kq : Nat) (x75_8 : Bool), v75 = .bool x75_8 ∧ Aside0 (laws_FnLines.j0 kq t447 t448 t449 t450 t451 x75_8 = some r) ∧ Aside0 (kq ≤ k) ∧ Aside0 (Below w.heap.size w wc))
    case first =>
      have H := HC9.out
      clear HC9
      by_cases c16 : t449 > t448
      · rw [if_pos c16] at H
        have c16b0 : decide (t448 < t449) = true := decide_eq_true c16
        clear c16
        (first | rw [c16b0] | (simp only [i64_w, i32_w]; rw [c16b0]) | skip)
        have H' := Aside0.mk H
        clear H
        go_wp2
        go_meet
        case rel => exact ⟨_, (true), (by first | rfl | (simp; done) | (simp [*]; done)), H', ⟨by first | omega | exact Nat.le_refl _⟩, ⟨by repeat (first | (with_reducible first | exact HB.out | apply below_alloc | apply pw_below_drewN | apply below_drew1) | exact HB.out)⟩⟩
      · rw [if_neg c16] at H
        have c16b0 : decide (t448 < t449) = false := decide_eq_false c16
        clear c16
        (first | rw [c16b0] | (simp only [i64_w, i32_w]; rw [c16b0]) | skip)
        by_cases c17 : t450 < t448
        · rw [if_pos c17] at H
          have c17b0 : decide (t450 < t448) = true := decide_eq_true c17
          clear c17
          have H' := Aside0.mk H
          clear H
          go_wp2
          go_meet
          case rel => exact ⟨_, (true), (by first | rfl | (simp; done) | (simp [*]; done)), H', ⟨by first | omega | exact Nat.le_refl _⟩, ⟨by repeat (first | (with_reducible first | exact HB.out | apply below_alloc | apply pw_below_drewN | apply below_drew1) | exact HB.out)⟩⟩
        · rw [if_neg c17] at H
          have c17b0 : decide (t450 < t448) = false := decide_eq_false c17
          clear c17
          replace H := Option.bind_eq_some_iff.mp H
          obtain ⟨t453, A180, H⟩ := H
          replace H : (if t453 = (wrap64 (t448 - t449)) then (if t451 < t452 then (laws_FnLines.j0 k t447 t448 t449 t450 t451 true) else (if t452 < t448 then (laws_FnLines.j0 k t447 t448 t449 t450 t451 true) else ((impl_Gap.f k t447 t451).bind fun t454 => (if t454 = t451 then ((impl_IndentAt.f k t447 t448).bind fun t455 => (laws_FnLines.j0 k t447 t448 t449 t450 t451 (decide (t455 > (wrap64 (t450 - t449)))))) else (laws_FnLines.j0 k t447 t448 t449 t450 t451 true))))) else (laws_FnLines.j0 k t447 t448 t449 t450 t451 true)) = some r := H
          have A18 := Aside0.mk A180
          clear A180
          by_cases c19 : t453 = (wrap64 (t448 - t449))
          · rw [if_pos c19] at H
            have c19b0 : (t453 == (wrap64 (t448 - t449))) = true := beq_iff_eq.mpr c19
            have c19b1 : (t453 != (wrap64 (t448 - t449))) = false := bne_eq_false_iff_eq.mpr c19
            clear c19
            by_cases c20 : t451 < t452
            · rw [if_pos c20] at H
              have c20b0 : decide (t451 < t452) = true := decide_eq_true c20
              clear c20
              have H' := Aside0.mk H
              clear H
              go_wp2_with (first | (go_at_call 10; (with_reducible refine (impl_Col.calls k t447 t448 t453 _ A18.out).mono ?_); rintro e w21 ⟨rfl, hb⟩; have n0_ := Aside0.mk (below_step (by repeat (first | (with_reducible first | exact HB.out | apply below_alloc | apply pw_below_drewN | apply below_drew1) | exact HB.out)) hb); clear HB; have HB := n0_; clear n0_; (try clear hb); (try clear hb2); (try clear hk); (try clear hi)))
              go_meet
              case rel => exact ⟨_, (true), (by first | rfl | (simp; done) | (simp [*]; done)), H', ⟨by first | omega | exact Nat.le_refl _⟩, ⟨by repeat (first | (with_reducible first | exact HB.out | apply below_alloc | apply pw_below_drewN | apply below_drew1) | exact HB.out)⟩⟩
            · rw [if_neg c20] at H
              have c20b0 : decide (t451 < t452) = false := decide_eq_false c20
              clear c20
              by_cases c22 : t452 < t448
              · rw [if_pos c22] at H
                have c22b0 : decide (t452 < t448) = true := decide_eq_true c22
                clear c22
                have H' := Aside0.mk H
                clear H
                go_wp2_with (first | (go_at_call 10; (with_reducible refine (impl_Col.calls k t447 t448 t453 _ A18.out).mono ?_); rintro e w23 ⟨rfl, hb⟩; have n0_ := Aside0.mk (below_step (by repeat (first | (with_reducible first | exact HB.out | apply below_alloc | apply pw_below_drewN | apply below_drew1) | exact HB.out)) hb); clear HB; have HB := n0_; clear n0_; (try clear hb); (try clear hb2); (try clear hk); (try clear hi)))
                go_meet
                case rel => exact ⟨_, (true), (by first | rfl | (simp; done) | (simp [*]; done)), H', ⟨by first | omega | exact Nat.le_refl _⟩, ⟨by repeat (first | (with_reducible first | exact HB.out | apply below_alloc | apply pw_below_drewN | apply below_drew1) | exact HB.out)⟩⟩
              · rw [if_neg c22] at H
                have c22b0 : decide (t452 < t448) = false := decide_eq_false c22
                clear c22
                replace H := Option.bind_eq_some_iff.mp H
                obtain ⟨t454, A240, H⟩ := H
                replace H : (if t454 = t451 then ((impl_IndentAt.f k t447 t448).bind fun t455 => (laws_FnLines.j0 k t447 t448 t449 t450 t451 (decide (t455 > (wrap64 (t450 - t449)))))) else (laws_FnLines.j0 k t447 t448 t449 t450 t451 true)) = some r := H
                have A24 := Aside0.mk A240
                clear A240
                by_cases c25 : t454 = t451
                · rw [if_pos c25] at H
                  have c25b0 : (t454 == t451) = true := beq_iff_eq.mpr c25
                  have c25b1 : (t454 != t451) = false := bne_eq_false_iff_eq.mpr c25
                  clear c25
                  replace H := Option.bind_eq_some_iff.mp H
                  obtain ⟨t455, A260, H⟩ := H
                  replace H : (laws_FnLines.j0 k t447 t448 t449 t450 t451 (decide (t455 > (wrap64 (t450 - t449))))) = some r := H
                  have A26 := Aside0.mk A260
                  clear A260
                  have H' := Aside0.mk H
                  clear H
                  go_wp2_with (first | (go_at_call 10; (with_reducible refine (impl_Col.calls k t447 t448 t453 _ A18.out).mono ?_); rintro e w27 ⟨rfl, hb⟩; have n0_ := Aside0.mk (below_step (by repeat (first | (with_reducible first | exact HB.out | apply below_alloc | apply pw_below_drewN | apply below_drew1) | exact HB.out)) hb); clear HB; have HB := n0_; clear n0_; (try clear hb); (try clear hb2); (try clear hk); (try clear hi)) | (go_at_call 8; (with_reducible refine (impl_Gap.calls k t447 t451 t454 _ A24.out).mono ?_); rintro e w28 ⟨rfl, hb⟩; have n0_ := Aside0.mk (below_step (by repeat (first | (with_reducible first | exact HB.out | apply below_alloc | apply pw_below_drewN | apply below_drew1) | exact HB.out)) hb); clear HB; have HB := n0_; clear n0_; (try clear hb); (try clear hb2); (try clear hk); (try clear hi)) | (go_at_call 11; (with_reducible refine (impl_IndentAt.calls k t447 t448 t455 _ A26.out).mono ?_); rintro e w29 ⟨rfl, hb⟩; have n0_ := Aside0.mk (below_step (by repeat (first | (with_reducible first | exact HB.out | apply below_alloc | apply pw_below_drewN | apply below_drew1) | exact HB.out)) hb); clear HB; have HB := n0_; clear n0_; (try clear hb); (try clear hb2); (try clear hk); (try clear hi)))
                  go_meet
                  case rel => exact ⟨_, (decide (t455 > (wrap64 (t450 - t449)))), (by first | rfl | (simp; done) | (simp [*]; done)), H', ⟨by first | omega | exact Nat.le_refl _⟩, ⟨by repeat (first | (with_reducible first | exact HB.out | apply below_alloc | apply pw_below_drewN | apply below_drew1) | exact HB.out)⟩⟩
                · rw [if_neg c25] at H
                  have c25b0 : (t454 == t451) = false := beq_eq_false_iff_ne.mpr c25
                  have c25b1 : (t454 != t451) = true := bne_iff_ne.mpr c25
                  have H' := Aside0.mk H
                  clear H
                  go_wp2_with (first | (go_at_call 10; (with_reducible refine (impl_Col.calls k t447 t448 t453 _ A18.out).mono ?_); rintro e w30 ⟨rfl, hb⟩; have n0_ := Aside0.mk (below_step (by repeat (first | (with_reducible first | exact HB.out | apply below_alloc | apply pw_below_drewN | apply below_drew1) | exact HB.out)) hb); clear HB; have HB := n0_; clear n0_; (try clear hb); (try clear hb2); (try clear hk); (try clear hi)) | (go_at_call 8; (with_reducible refine (impl_Gap.calls k t447 t451 t454 _ A24.out).mono ?_); rintro e w31 ⟨rfl, hb⟩; have n0_ := Aside0.mk (below_step (by repeat (first | (with_reducible first | exact HB.out | apply below_alloc | apply pw_below_drewN | apply below_drew1) | exact HB.out)) hb); clear HB; have HB := n0_; clear n0_; (try clear hb); (try clear hb2); (try clear hk); (try clear hi)))
                  go_meet
                  case rel => exact ⟨_, (true), (by first | rfl | (simp; done) | (simp [*]; done)), H', ⟨by first | omega | exact Nat.le_refl _⟩, ⟨by repeat (first | (with_reducible first | exact HB.out | apply below_alloc | apply pw_below_drewN | apply below_drew1) | exact HB.out)⟩⟩
          · rw [if_neg c19] at H
            have c19b0 : (t453 == (wrap64 (t448 - t449))) = false := beq_eq_false_iff_ne.mpr c19
            have c19b1 : (t453 != (wrap64 (t448 - t449))) = true := bne_iff_ne.mpr c19
            have H' := Aside0.mk H
            clear H
            go_wp2_with (first | (go_at_call 10; (with_reducible refine (impl_Col.calls k t447 t448 t453 _ A18.out).mono ?_); rintro e w32 ⟨rfl, hb⟩; have n0_ := Aside0.mk (below_step (by repeat (first | (with_reducible first | exact HB.out | apply below_alloc | apply pw_below_drewN | apply below_drew1) | exact HB.out)) hb); clear HB; have HB := n0_; clear n0_; (try clear hb); (try clear hb2); (try clear hk); (try clear hi)))
            go_meet
            case rel => exact ⟨_, (true), (by first | rfl | (simp; done) | (simp [*]; done)), H', ⟨by first | omega | exact Nat.le_refl _⟩, ⟨by repeat (first | (with_reducible first | exact HB.out | apply below_alloc | apply pw_below_drewN | apply below_drew1) | exact HB.out)⟩⟩
    case rest =>
      clear HC9
      try clear c1
      try clear c2
      try clear c2b0
      try clear c2b1
      try clear p2
      try clear c3
      try clear c4
      try clear c5
      try clear c6
      try clear p6
      try clear c7
      try clear c8
      try clear c9
      try clear c16
      try clear c16b0
      try clear c17
      try clear c17b0
      try clear c19
      try clear c19b0
      try clear c19b1
      try clear c20
      try clear c20b0
      try clear c22
      try clear c22b0
      try clear c25
      try clear c25b0
      try clear c25b1
      obtain ⟨kq, x75_8, rfl, HA, HJ8, HB⟩ := hcut
      cases kq with
      | zero => exact absurd HA.out (by simp [laws_FnLines.j0])
      | succ kj8 =>
        have H := HA.out
        clear HA
        simp only [laws_FnLines.j0] at H
        by_cases c33 : x75_8 = true
        · subst c33
          have H1 : (some false) = some r := by rw [if_pos rfl] at H; exact H
          clear H
          have H := H1
          clear H1
          obtain rfl := Option.some.inj H
          go_wp2
          go_ret
          exact ⟨by first | rfl | (simp [errW_none, errW_some] <;> rfl) | (simp [*, errW_none, errW_some] <;> rfl), by repeat (first | (with_reducible first | exact HB.out | apply below_alloc | apply pw_below_drewN | apply below_drew1) | exact HB.out)⟩
        · replace c33 := Bool.eq_false_iff.mpr c33
          subst c33
          have H1 : ((impl_Rest.f kj8 t447 t448).bind fun bt456 => (if bt456.1 ≥ t448 then (if bt456.2 = true then (if bt456.1 = t450 then ((impl_Lone.f kj8 t447 t448).bind fun t458 => (if t458 = true then ((impl_White.f kj8 t447 t449).bind fun t459 => (if t459 = t450 then (if t448 < (t447.size : Int) then (some true) else (some (t451 == (t447.size : Int)))) else (some false))) else (if t448 < (t447.size : Int) then (some true) else (some (t451 == (t447.size : Int)))))) else (some false)) else ((impl_Lone.f kj8 t447 t448).bind fun t460 => (if t460 = true then ((impl_White.f kj8 t447 t449).bind fun t461 => (if t461 = t450 then (if t448 < (t447.size : Int) then (some true) else (some (t451 == (t447.size : Int)))) else (some false))) else (if t448 < (t447.size : Int) then (some true) else (some (t451 == (t447.size : Int))))))) else (some false))) = some r := by rw [if_neg (show ¬ (false = true) by decide)] at H; exact H
          clear H
          have H := H1
          clear H1
          replace H := Option.bind_eq_some_iff.mp H
          obtain ⟨⟨t456, t457⟩, A340, H⟩ := H
          replace H : (if t456 ≥ t448 then (if t457 = true then (if t456 = t450 then ((impl_Lone.f kj8 t447 t448).bind fun t458 => (if t458 = true then ((impl_White.f kj8 t447 t449).bind fun t459 => (if t459 = t450 then (if t448 < (t447.size : Int) then (some true) else (some (t451 == (t447.size : Int)))) else (some false))) else (if t448 < (t447.size : Int) then (some true) else (some (t451 == (t447.size : Int)))))) else (some false)) else ((impl_Lone.f kj8 t447 t448).bind fun t460 => (if t460 = true then ((impl_White.f kj8 t447 t449).bind fun t461 => (if t461 = t450 then (if t448 < (t447.size : Int) then (some true) else (some (t451 == (t447.size : Int)))) else (some false))) else (if t448 < (t447.size : Int) then (some true) else (some (t451 == (t447.size : Int))))))) else (some false)) = some r := H
          have A34 := Aside0.mk A340
          clear A340
          by_cases c35 : t456 ≥ t448
          · rw [if_pos c35] at H
            have c35b0 : decide (t448 ≤ t456) = true := decide_eq_true c35
            clear c35
            by_cases c36 : t457 = true
            · subst c36
              have H1 : (if t456 = t450 then ((impl_Lone.f kj8 t447 t448).bind fun t458 => (if t458 = true then ((impl_White.f kj8 t447 t449).bind fun t459 => (if t459 = t450 then (if t448 < (t447.size : Int) then (some true) else (some (t451 == (t447.size : Int)))) else (some false))) else (if t448 < (t447.size : Int) then (some true) else (some (t451 == (t447.size : Int)))))) else (some false)) = some r := by rw [if_pos rfl] at H; exact H
              clear H
              have H := H1
              clear H1
              by_cases c37 : t456 = t450
              · rw [if_pos c37] at H
                have c37b0 : (t456 == t450) = true := beq_iff_eq.mpr c37
                have c37b1 : (t456 != t450) = false := bne_eq_false_iff_eq.mpr c37
                clear c37
                replace H := Option.bind_eq_some_iff.mp H
                obtain ⟨t458, A380, H⟩ := H
                replace H : (if t458 = true then ((impl_White.f kj8 t447 t449).bind fun t459 => (if t459 = t450 then (if t448 < (t447.size : Int) then (some true) else (some (t451 == (t447.size : Int)))) else (some false))) else (if t448 < (t447.size : Int) then (some true) else (some (t451 == (t447.size : Int))))) = some r := H
                have A38 := Aside0.mk A380
                clear A380
                by_cases c39 : t458 = true
                · subst c39
                  have H1 : ((impl_White.f kj8 t447 t449).bind fun t459 => (if t459 = t450 then (if t448 < (t447.size : Int) then (some true) else (some (t451 == (t447.size : Int)))) else (some false))) = some r := by rw [if_pos rfl] at H; exact H
                  clear H
                  have H := H1
                  clear H1
                  replace H := Option.bind_eq_some_iff.mp H
                  obtain ⟨t459, A400, H⟩ := H
                  replace H : (if t459 = t450 then (if t448 < (t447.size : Int) then (some true) else (some (t451 == (t447.size : Int)))) else (some false)) = some r := H
                  have A40 := Aside0.mk A400
                  clear A400
                  by_cases c41 : t459 = t450
                  · rw [if_pos c41] at H
                    have c41b0 : (t459 == t450) = true := beq_iff_eq.mpr c41
                    have c41b1 : (t459 != t450) = false := bne_eq_false_iff_eq.mpr c41
                    clear c41
                    by_cases c42 : t448 < (t447.size : Int)
                    · rw [if_pos c42] at H
                      have c42b0 : decide (t448 < (t447.size : Int)) = true := decide_eq_true c42
                      clear c42
                      obtain rfl := Option.some.inj H
                      go_wp2_with (first | ((with_reducible refine gate_callee (f := 12) rfl ?_); refine goesL_ (some 79) rfl rfl Try.func12 (by kernel_rfl) rfl #[.string t447, .int .i64 t448] rfl (by (try simp only [List.map_toArray, List.map_cons, List.map_nil]); first | done | rfl | (simp only [List.length_drop, List.length_take]; rfl)) ?_; (with_reducible refine (impl_Rest.calls kj8 t447 t448 t456 true _ A34.out).mono ?_); rintro e w43 ⟨rfl, hb⟩; refine ⟨_, rfl, ?_⟩; have n0_ := Aside0.mk (below_step (by repeat (first | (with_reducible first | exact HB.out | apply below_alloc | apply pw_below_drewN | apply below_drew1) | exact HB.out)) hb); clear HB; have HB := n0_; clear n0_; (try clear hb); (try clear hb2); (try clear hk); (try clear hi)) | (go_at_call 13; (with_reducible refine (impl_Lone.calls kj8 t447 t448 true _ A38.out).mono ?_); rintro e w44 ⟨rfl, hb⟩; have n0_ := Aside0.mk (below_step (by repeat (first | (with_reducible first | exact HB.out | apply below_alloc | apply pw_below_drewN | apply below_drew1) | exact HB.out)) hb); clear HB; have HB := n0_; clear n0_; (try clear hb); (try clear hb2); (try clear hk); (try clear hi)) | (go_at_call 9; (with_reducible refine (impl_White.calls kj8 t447 t449 t459 _ A40.out).mono ?_); rintro e w45 ⟨rfl, hb⟩; have n0_ := Aside0.mk (below_step (by repeat (first | (with_reducible first | exact HB.out | apply below_alloc | apply pw_below_drewN | apply below_drew1) | exact HB.out)) hb); clear HB; have HB := n0_; clear n0_; (try clear hb); (try clear hb2); (try clear hk); (try clear hi)))
                      go_ret
                      exact ⟨by first | rfl | (simp [errW_none, errW_some] <;> rfl) | (simp [*, errW_none, errW_some] <;> rfl), by repeat (first | (with_reducible first | exact HB.out | apply below_alloc | apply pw_below_drewN | apply below_drew1) | exact HB.out)⟩
                    · rw [if_neg c42] at H
                      have c42b0 : decide (t448 < (t447.size : Int)) = false := decide_eq_false c42
                      clear c42
                      obtain rfl := Option.some.inj H
                      go_wp2_with (first | ((with_reducible refine gate_callee (f := 12) rfl ?_); refine goesL_ (some 79) rfl rfl Try.func12 (by kernel_rfl) rfl #[.string t447, .int .i64 t448] rfl (by (try simp only [List.map_toArray, List.map_cons, List.map_nil]); first | done | rfl | (simp only [List.length_drop, List.length_take]; rfl)) ?_; (with_reducible refine (impl_Rest.calls kj8 t447 t448 t456 true _ A34.out).mono ?_); rintro e w46 ⟨rfl, hb⟩; refine ⟨_, rfl, ?_⟩; have n0_ := Aside0.mk (below_step (by repeat (first | (with_reducible first | exact HB.out | apply below_alloc | apply pw_below_drewN | apply below_drew1) | exact HB.out)) hb); clear HB; have HB := n0_; clear n0_; (try clear hb); (try clear hb2); (try clear hk); (try clear hi)) | (go_at_call 13; (with_reducible refine (impl_Lone.calls kj8 t447 t448 true _ A38.out).mono ?_); rintro e w47 ⟨rfl, hb⟩; have n0_ := Aside0.mk (below_step (by repeat (first | (with_reducible first | exact HB.out | apply below_alloc | apply pw_below_drewN | apply below_drew1) | exact HB.out)) hb); clear HB; have HB := n0_; clear n0_; (try clear hb); (try clear hb2); (try clear hk); (try clear hi)) | (go_at_call 9; (with_reducible refine (impl_White.calls kj8 t447 t449 t459 _ A40.out).mono ?_); rintro e w48 ⟨rfl, hb⟩; have n0_ := Aside0.mk (below_step (by repeat (first | (with_reducible first | exact HB.out | apply below_alloc | apply pw_below_drewN | apply below_drew1) | exact HB.out)) hb); clear HB; have HB := n0_; clear n0_; (try clear hb); (try clear hb2); (try clear hk); (try clear hi)))
                      go_ret
                      exact ⟨by first | rfl | (simp [errW_none, errW_some] <;> rfl) | (simp [*, errW_none, errW_some] <;> rfl), by repeat (first | (with_reducible first | exact HB.out | apply below_alloc | apply pw_below_drewN | apply below_drew1) | exact HB.out)⟩
                  · rw [if_neg c41] at H
                    have c41b0 : (t459 == t450) = false := beq_eq_false_iff_ne.mpr c41
                    have c41b1 : (t459 != t450) = true := bne_iff_ne.mpr c41
                    obtain rfl := Option.some.inj H
                    go_wp2_with (first | ((with_reducible refine gate_callee (f := 12) rfl ?_); refine goesL_ (some 79) rfl rfl Try.func12 (by kernel_rfl) rfl #[.string t447, .int .i64 t448] rfl (by (try simp only [List.map_toArray, List.map_cons, List.map_nil]); first | done | rfl | (simp only [List.length_drop, List.length_take]; rfl)) ?_; (with_reducible refine (impl_Rest.calls kj8 t447 t448 t456 true _ A34.out).mono ?_); rintro e w49 ⟨rfl, hb⟩; refine ⟨_, rfl, ?_⟩; have n0_ := Aside0.mk (below_step (by repeat (first | (with_reducible first | exact HB.out | apply below_alloc | apply pw_below_drewN | apply below_drew1) | exact HB.out)) hb); clear HB; have HB := n0_; clear n0_; (try clear hb); (try clear hb2); (try clear hk); (try clear hi)) | (go_at_call 13; (with_reducible refine (impl_Lone.calls kj8 t447 t448 true _ A38.out).mono ?_); rintro e w50 ⟨rfl, hb⟩; have n0_ := Aside0.mk (below_step (by repeat (first | (with_reducible first | exact HB.out | apply below_alloc | apply pw_below_drewN | apply below_drew1) | exact HB.out)) hb); clear HB; have HB := n0_; clear n0_; (try clear hb); (try clear hb2); (try clear hk); (try clear hi)) | (go_at_call 9; (with_reducible refine (impl_White.calls kj8 t447 t449 t459 _ A40.out).mono ?_); rintro e w51 ⟨rfl, hb⟩; have n0_ := Aside0.mk (below_step (by repeat (first | (with_reducible first | exact HB.out | apply below_alloc | apply pw_below_drewN | apply below_drew1) | exact HB.out)) hb); clear HB; have HB := n0_; clear n0_; (try clear hb); (try clear hb2); (try clear hk); (try clear hi)))
                    go_ret
                    exact ⟨by first | rfl | (simp [errW_none, errW_some] <;> rfl) | (simp [*, errW_none, errW_some] <;> rfl), by repeat (first | (with_reducible first | exact HB.out | apply below_alloc | apply pw_below_drewN | apply below_drew1) | exact HB.out)⟩
                · replace c39 := Bool.eq_false_iff.mpr c39
                  subst c39
                  have H1 : (if t448 < (t447.size : Int) then (some true) else (some (t451 == (t447.size : Int)))) = some r := by rw [if_neg (show ¬ (false = true) by decide)] at H; exact H
                  clear H
                  have H := H1
                  clear H1
                  by_cases c52 : t448 < (t447.size : Int)
                  · rw [if_pos c52] at H
                    have c52b0 : decide (t448 < (t447.size : Int)) = true := decide_eq_true c52
                    clear c52
                    obtain rfl := Option.some.inj H
                    go_wp2_with (first | ((with_reducible refine gate_callee (f := 12) rfl ?_); refine goesL_ (some 79) rfl rfl Try.func12 (by kernel_rfl) rfl #[.string t447, .int .i64 t448] rfl (by (try simp only [List.map_toArray, List.map_cons, List.map_nil]); first | done | rfl | (simp only [List.length_drop, List.length_take]; rfl)) ?_; (with_reducible refine (impl_Rest.calls kj8 t447 t448 t456 true _ A34.out).mono ?_); rintro e w53 ⟨rfl, hb⟩; refine ⟨_, rfl, ?_⟩; have n0_ := Aside0.mk (below_step (by repeat (first | (with_reducible first | exact HB.out | apply below_alloc | apply pw_below_drewN | apply below_drew1) | exact HB.out)) hb); clear HB; have HB := n0_; clear n0_; (try clear hb); (try clear hb2); (try clear hk); (try clear hi)) | (go_at_call 13; (with_reducible refine (impl_Lone.calls kj8 t447 t448 false _ A38.out).mono ?_); rintro e w54 ⟨rfl, hb⟩; have n0_ := Aside0.mk (below_step (by repeat (first | (with_reducible first | exact HB.out | apply below_alloc | apply pw_below_drewN | apply below_drew1) | exact HB.out)) hb); clear HB; have HB := n0_; clear n0_; (try clear hb); (try clear hb2); (try clear hk); (try clear hi)))
                    go_ret
                    exact ⟨by first | rfl | (simp [errW_none, errW_some] <;> rfl) | (simp [*, errW_none, errW_some] <;> rfl), by repeat (first | (with_reducible first | exact HB.out | apply below_alloc | apply pw_below_drewN | apply below_drew1) | exact HB.out)⟩
                  · rw [if_neg c52] at H
                    have c52b0 : decide (t448 < (t447.size : Int)) = false := decide_eq_false c52
                    clear c52
                    obtain rfl := Option.some.inj H
                    go_wp2_with (first | ((with_reducible refine gate_callee (f := 12) rfl ?_); refine goesL_ (some 79) rfl rfl Try.func12 (by kernel_rfl) rfl #[.string t447, .int .i64 t448] rfl (by (try simp only [List.map_toArray, List.map_cons, List.map_nil]); first | done | rfl | (simp only [List.length_drop, List.length_take]; rfl)) ?_; (with_reducible refine (impl_Rest.calls kj8 t447 t448 t456 true _ A34.out).mono ?_); rintro e w55 ⟨rfl, hb⟩; refine ⟨_, rfl, ?_⟩; have n0_ := Aside0.mk (below_step (by repeat (first | (with_reducible first | exact HB.out | apply below_alloc | apply pw_below_drewN | apply below_drew1) | exact HB.out)) hb); clear HB; have HB := n0_; clear n0_; (try clear hb); (try clear hb2); (try clear hk); (try clear hi)) | (go_at_call 13; (with_reducible refine (impl_Lone.calls kj8 t447 t448 false _ A38.out).mono ?_); rintro e w56 ⟨rfl, hb⟩; have n0_ := Aside0.mk (below_step (by repeat (first | (with_reducible first | exact HB.out | apply below_alloc | apply pw_below_drewN | apply below_drew1) | exact HB.out)) hb); clear HB; have HB := n0_; clear n0_; (try clear hb); (try clear hb2); (try clear hk); (try clear hi)))
                    go_ret
                    exact ⟨by first | rfl | (simp [errW_none, errW_some] <;> rfl) | (simp [*, errW_none, errW_some] <;> rfl), by repeat (first | (with_reducible first | exact HB.out | apply below_alloc | apply pw_below_drewN | apply below_drew1) | exact HB.out)⟩
              · rw [if_neg c37] at H
                have c37b0 : (t456 == t450) = false := beq_eq_false_iff_ne.mpr c37
                have c37b1 : (t456 != t450) = true := bne_iff_ne.mpr c37
                obtain rfl := Option.some.inj H
                go_wp2_with (first | ((with_reducible refine gate_callee (f := 12) rfl ?_); refine goesL_ (some 79) rfl rfl Try.func12 (by kernel_rfl) rfl #[.string t447, .int .i64 t448] rfl (by (try simp only [List.map_toArray, List.map_cons, List.map_nil]); first | done | rfl | (simp only [List.length_drop, List.length_take]; rfl)) ?_; (with_reducible refine (impl_Rest.calls kj8 t447 t448 t456 true _ A34.out).mono ?_); rintro e w57 ⟨rfl, hb⟩; refine ⟨_, rfl, ?_⟩; have n0_ := Aside0.mk (below_step (by repeat (first | (with_reducible first | exact HB.out | apply below_alloc | apply pw_below_drewN | apply below_drew1) | exact HB.out)) hb); clear HB; have HB := n0_; clear n0_; (try clear hb); (try clear hb2); (try clear hk); (try clear hi)))
                go_ret
                exact ⟨by first | rfl | (simp [errW_none, errW_some] <;> rfl) | (simp [*, errW_none, errW_some] <;> rfl), by repeat (first | (with_reducible first | exact HB.out | apply below_alloc | apply pw_below_drewN | apply below_drew1) | exact HB.out)⟩
            · replace c36 := Bool.eq_false_iff.mpr c36
              subst c36
              have H1 : ((impl_Lone.f kj8 t447 t448).bind fun t460 => (if t460 = true then ((impl_White.f kj8 t447 t449).bind fun t461 => (if t461 = t450 then (if t448 < (t447.size : Int) then (some true) else (some (t451 == (t447.size : Int)))) else (some false))) else (if t448 < (t447.size : Int) then (some true) else (some (t451 == (t447.size : Int)))))) = some r := by rw [if_neg (show ¬ (false = true) by decide)] at H; exact H
              clear H
              have H := H1
              clear H1
              replace H := Option.bind_eq_some_iff.mp H
              obtain ⟨t460, A580, H⟩ := H
              replace H : (if t460 = true then ((impl_White.f kj8 t447 t449).bind fun t461 => (if t461 = t450 then (if t448 < (t447.size : Int) then (some true) else (some (t451 == (t447.size : Int)))) else (some false))) else (if t448 < (t447.size : Int) then (some true) else (some (t451 == (t447.size : Int))))) = some r := H
              have A58 := Aside0.mk A580
              clear A580
              by_cases c59 : t460 = true
              · subst c59
                have H1 : ((impl_White.f kj8 t447 t449).bind fun t461 => (if t461 = t450 then (if t448 < (t447.size : Int) then (some true) else (some (t451 == (t447.size : Int)))) else (some false))) = some r := by rw [if_pos rfl] at H; exact H
                clear H
                have H := H1
                clear H1
                replace H := Option.bind_eq_some_iff.mp H
                obtain ⟨t461, A600, H⟩ := H
                replace H : (if t461 = t450 then (if t448 < (t447.size : Int) then (some true) else (some (t451 == (t447.size : Int)))) else (some false)) = some r := H
                have A60 := Aside0.mk A600
                clear A600
                by_cases c61 : t461 = t450
                · rw [if_pos c61] at H
                  have c61b0 : (t461 == t450) = true := beq_iff_eq.mpr c61
                  have c61b1 : (t461 != t450) = false := bne_eq_false_iff_eq.mpr c61
                  clear c61
                  by_cases c62 : t448 < (t447.size : Int)
                  · rw [if_pos c62] at H
                    have c62b0 : decide (t448 < (t447.size : Int)) = true := decide_eq_true c62
                    clear c62
                    obtain rfl := Option.some.inj H
                    go_wp2_with (first | ((with_reducible refine gate_callee (f := 12) rfl ?_); refine goesL_ (some 79) rfl rfl Try.func12 (by kernel_rfl) rfl #[.string t447, .int .i64 t448] rfl (by (try simp only [List.map_toArray, List.map_cons, List.map_nil]); first | done | rfl | (simp only [List.length_drop, List.length_take]; rfl)) ?_; (with_reducible refine (impl_Rest.calls kj8 t447 t448 t456 false _ A34.out).mono ?_); rintro e w63 ⟨rfl, hb⟩; refine ⟨_, rfl, ?_⟩; have n0_ := Aside0.mk (below_step (by repeat (first | (with_reducible first | exact HB.out | apply below_alloc | apply pw_below_drewN | apply below_drew1) | exact HB.out)) hb); clear HB; have HB := n0_; clear n0_; (try clear hb); (try clear hb2); (try clear hk); (try clear hi)) | (go_at_call 13; (with_reducible refine (impl_Lone.calls kj8 t447 t448 true _ A58.out).mono ?_); rintro e w64 ⟨rfl, hb⟩; have n0_ := Aside0.mk (below_step (by repeat (first | (with_reducible first | exact HB.out | apply below_alloc | apply pw_below_drewN | apply below_drew1) | exact HB.out)) hb); clear HB; have HB := n0_; clear n0_; (try clear hb); (try clear hb2); (try clear hk); (try clear hi)) | (go_at_call 9; (with_reducible refine (impl_White.calls kj8 t447 t449 t461 _ A60.out).mono ?_); rintro e w65 ⟨rfl, hb⟩; have n0_ := Aside0.mk (below_step (by repeat (first | (with_reducible first | exact HB.out | apply below_alloc | apply pw_below_drewN | apply below_drew1) | exact HB.out)) hb); clear HB; have HB := n0_; clear n0_; (try clear hb); (try clear hb2); (try clear hk); (try clear hi)))
                    go_ret
                    exact ⟨by first | rfl | (simp [errW_none, errW_some] <;> rfl) | (simp [*, errW_none, errW_some] <;> rfl), by repeat (first | (with_reducible first | exact HB.out | apply below_alloc | apply pw_below_drewN | apply below_drew1) | exact HB.out)⟩
                  · rw [if_neg c62] at H
                    have c62b0 : decide (t448 < (t447.size : Int)) = false := decide_eq_false c62
                    clear c62
                    obtain rfl := Option.some.inj H
                    go_wp2_with (first | ((with_reducible refine gate_callee (f := 12) rfl ?_); refine goesL_ (some 79) rfl rfl Try.func12 (by kernel_rfl) rfl #[.string t447, .int .i64 t448] rfl (by (try simp only [List.map_toArray, List.map_cons, List.map_nil]); first | done | rfl | (simp only [List.length_drop, List.length_take]; rfl)) ?_; (with_reducible refine (impl_Rest.calls kj8 t447 t448 t456 false _ A34.out).mono ?_); rintro e w66 ⟨rfl, hb⟩; refine ⟨_, rfl, ?_⟩; have n0_ := Aside0.mk (below_step (by repeat (first | (with_reducible first | exact HB.out | apply below_alloc | apply pw_below_drewN | apply below_drew1) | exact HB.out)) hb); clear HB; have HB := n0_; clear n0_; (try clear hb); (try clear hb2); (try clear hk); (try clear hi)) | (go_at_call 13; (with_reducible refine (impl_Lone.calls kj8 t447 t448 true _ A58.out).mono ?_); rintro e w67 ⟨rfl, hb⟩; have n0_ := Aside0.mk (below_step (by repeat (first | (with_reducible first | exact HB.out | apply below_alloc | apply pw_below_drewN | apply below_drew1) | exact HB.out)) hb); clear HB; have HB := n0_; clear n0_; (try clear hb); (try clear hb2); (try clear hk); (try clear hi)) | (go_at_call 9; (with_reducible refine (impl_White.calls kj8 t447 t449 t461 _ A60.out).mono ?_); rintro e w68 ⟨rfl, hb⟩; have n0_ := Aside0.mk (below_step (by repeat (first | (with_reducible first | exact HB.out | apply below_alloc | apply pw_below_drewN | apply below_drew1) | exact HB.out)) hb); clear HB; have HB := n0_; clear n0_; (try clear hb); (try clear hb2); (try clear hk); (try clear hi)))
                    go_ret
                    exact ⟨by first | rfl | (simp [errW_none, errW_some] <;> rfl) | (simp [*, errW_none, errW_some] <;> rfl), by repeat (first | (with_reducible first | exact HB.out | apply below_alloc | apply pw_below_drewN | apply below_drew1) | exact HB.out)⟩
                · rw [if_neg c61] at H
                  have c61b0 : (t461 == t450) = false := beq_eq_false_iff_ne.mpr c61
                  have c61b1 : (t461 != t450) = true := bne_iff_ne.mpr c61
                  obtain rfl := Option.some.inj H
                  go_wp2_with (first | ((with_reducible refine gate_callee (f := 12) rfl ?_); refine goesL_ (some 79) rfl rfl Try.func12 (by kernel_rfl) rfl #[.string t447, .int .i64 t448] rfl (by (try simp only [List.map_toArray, List.map_cons, List.map_nil]); first | done | rfl | (simp only [List.length_drop, List.length_take]; rfl)) ?_; (with_reducible refine (impl_Rest.calls kj8 t447 t448 t456 false _ A34.out).mono ?_); rintro e w69 ⟨rfl, hb⟩; refine ⟨_, rfl, ?_⟩; have n0_ := Aside0.mk (below_step (by repeat (first | (with_reducible first | exact HB.out | apply below_alloc | apply pw_below_drewN | apply below_drew1) | exact HB.out)) hb); clear HB; have HB := n0_; clear n0_; (try clear hb); (try clear hb2); (try clear hk); (try clear hi)) | (go_at_call 13; (with_reducible refine (impl_Lone.calls kj8 t447 t448 true _ A58.out).mono ?_); rintro e w70 ⟨rfl, hb⟩; have n0_ := Aside0.mk (below_step (by repeat (first | (with_reducible first | exact HB.out | apply below_alloc | apply pw_below_drewN | apply below_drew1) | exact HB.out)) hb); clear HB; have HB := n0_; clear n0_; (try clear hb); (try clear hb2); (try clear hk); (try clear hi)) | (go_at_call 9; (with_reducible refine (impl_White.calls kj8 t447 t449 t461 _ A60.out).mono ?_); rintro e w71 ⟨rfl, hb⟩; have n0_ := Aside0.mk (below_step (by repeat (first | (with_reducible first | exact HB.out | apply below_alloc | apply pw_below_drewN | apply below_drew1) | exact HB.out)) hb); clear HB; have HB := n0_; clear n0_; (try clear hb); (try clear hb2); (try clear hk); (try clear hi)))
                  go_ret
                  exact ⟨by first | rfl | (simp [errW_none, errW_some] <;> rfl) | (simp [*, errW_none, errW_some] <;> rfl), by repeat (first | (with_reducible first | exact HB.out | apply below_alloc | apply pw_below_drewN | apply below_drew1) | exact HB.out)⟩
              · replace c59 := Bool.eq_false_iff.mpr c59
                subst c59
                have H1 : (if t448 < (t447.size : Int) then (some true) else (some (t451 == (t447.size : Int)))) = some r := by rw [if_neg (show ¬ (false = true) by decide)] at H; exact H
                clear H
                have H := H1
                clear H1
                by_cases c72 : t448 < (t447.size : Int)
                · rw [if_pos c72] at H
                  have c72b0 : decide (t448 < (t447.size : Int)) = true := decide_eq_true c72
                  clear c72
                  obtain rfl := Option.some.inj H
                  go_wp2_with (first | ((with_reducible refine gate_callee (f := 12) rfl ?_); refine goesL_ (some 79) rfl rfl Try.func12 (by kernel_rfl) rfl #[.string t447, .int .i64 t448] rfl (by (try simp only [List.map_toArray, List.map_cons, List.map_nil]); first | done | rfl | (simp only [List.length_drop, List.length_take]; rfl)) ?_; (with_reducible refine (impl_Rest.calls kj8 t447 t448 t456 false _ A34.out).mono ?_); rintro e w73 ⟨rfl, hb⟩; refine ⟨_, rfl, ?_⟩; have n0_ := Aside0.mk (below_step (by repeat (first | (with_reducible first | exact HB.out | apply below_alloc | apply pw_below_drewN | apply below_drew1) | exact HB.out)) hb); clear HB; have HB := n0_; clear n0_; (try clear hb); (try clear hb2); (try clear hk); (try clear hi)) | (go_at_call 13; (with_reducible refine (impl_Lone.calls kj8 t447 t448 false _ A58.out).mono ?_); rintro e w74 ⟨rfl, hb⟩; have n0_ := Aside0.mk (below_step (by repeat (first | (with_reducible first | exact HB.out | apply below_alloc | apply pw_below_drewN | apply below_drew1) | exact HB.out)) hb); clear HB; have HB := n0_; clear n0_; (try clear hb); (try clear hb2); (try clear hk); (try clear hi)))
                  go_ret
                  exact ⟨by first | rfl | (simp [errW_none, errW_some] <;> rfl) | (simp [*, errW_none, errW_some] <;> rfl), by repeat (first | (with_reducible first | exact HB.out | apply below_alloc | apply pw_below_drewN | apply below_drew1) | exact HB.out)⟩
                · rw [if_neg c72] at H
                  have c72b0 : decide (t448 < (t447.size : Int)) = false := decide_eq_false c72
                  clear c72
                  obtain rfl := Option.some.inj H
                  go_wp2_with (first | ((with_reducible refine gate_callee (f := 12) rfl ?_); refine goesL_ (some 79) rfl rfl Try.func12 (by kernel_rfl) rfl #[.string t447, .int .i64 t448] rfl (by (try simp only [List.map_toArray, List.map_cons, List.map_nil]); first | done | rfl | (simp only [List.length_drop, List.length_take]; rfl)) ?_; (with_reducible refine (impl_Rest.calls kj8 t447 t448 t456 false _ A34.out).mono ?_); rintro e w75 ⟨rfl, hb⟩; refine ⟨_, rfl, ?_⟩; have n0_ := Aside0.mk (below_step (by repeat (first | (with_reducible first | exact HB.out | apply below_alloc | apply pw_below_drewN | apply below_drew1) | exact HB.out)) hb); clear HB; have HB := n0_; clear n0_; (try clear hb); (try clear hb2); (try clear hk); (try clear hi)) | (go_at_call 13; (with_reducible refine (impl_Lone.calls kj8 t447 t448 false _ A58.out).mono ?_); rintro e w76 ⟨rfl, hb⟩; have n0_ := Aside0.mk (below_step (by repeat (first | (with_reducible first | exact HB.out | apply below_alloc | apply pw_below_drewN | apply below_drew1) | exact HB.out)) hb); clear HB; have HB := n0_; clear n0_; (try clear hb); (try clear hb2); (try clear hk); (try clear hi)))
                  go_ret
                  exact ⟨by first | rfl | (simp [errW_none, errW_some] <;> rfl) | (simp [*, errW_none, errW_some] <;> rfl), by repeat (first | (with_reducible first | exact HB.out | apply below_alloc | apply pw_below_drewN | apply below_drew1) | exact HB.out)⟩
          · rw [if_neg c35] at H
            have c35b0 : decide (t448 ≤ t456) = false := decide_eq_false c35
            clear c35
            obtain rfl := Option.some.inj H
            go_wp2_with (first | ((with_reducible refine gate_callee (f := 12) rfl ?_); refine goesL_ (some 79) rfl rfl Try.func12 (by kernel_rfl) rfl #[.string t447, .int .i64 t448] rfl (by (try simp only [List.map_toArray, List.map_cons, List.map_nil]); first | done | rfl | (simp only [List.length_drop, List.length_take]; rfl)) ?_; (with_reducible refine (impl_Rest.calls kj8 t447 t448 t456 t457 _ A34.out).mono ?_); rintro e w77 ⟨rfl, hb⟩; refine ⟨_, rfl, ?_⟩; have n0_ := Aside0.mk (below_step (by repeat (first | (with_reducible first | exact HB.out | apply below_alloc | apply pw_below_drewN | apply below_drew1) | exact HB.out)) hb); clear HB; have HB := n0_; clear n0_; (try clear hb); (try clear hb2); (try clear hk); (try clear hi)))
            go_ret
            exact ⟨by first | rfl | (simp [errW_none, errW_some] <;> rfl) | (simp [*, errW_none, errW_some] <;> rfl), by repeat (first | (with_reducible first | exact HB.out | apply below_alloc | apply pw_below_drewN | apply below_drew1) | exact HB.out)⟩

/-- THE ONE PURE STATEMENT of laws_FnLines: yours. -/
def laws_FnLines.Pure : Prop := ∀ (l0 : List Int), l0.length ≤ maxLen → l0.length * 1 ≤ 140737488351232 → (∀ x ∈ l0, (Lit.int .u8 x).wf = true) → ∃ k, laws_FnLines.f k l0 = some true
theorem laws_FnLines.walk (P : laws_FnLines.Pure) (a0 : Option Addr) (len0 cap0 : Nat) (z0 : List Int) (w : World) (w0 : (a0 = none ∧ len0 = 0 ∧ cap0 = 0 ∧ z0 = []) ∨ ∃ x, a0 = some x ∧ len0 ≤ cap0 ∧ cap0 ≤ maxLen ∧ z0.length = cap0 ∧ (∀ i, i < z0.length → w.cell? (x.add i) = some (.int .u8 (z0.getD i 0))) ∧ ∀ n ∈ z0, (Lit.int .u8 n).wf = true) (y0 : len0 * 1 ≤ 140737488351232) :
    Calls Try.prog 3 #[.slice a0 len0 cap0] w fun e w' => e = .returned (.bool true) ∧ Below w.heap.size w w' := by
  obtain ⟨l0, rfl, hr0, hm0, hw0, hc0⟩ := ReadsInt.ofRowC w0
  obtain ⟨k, h⟩ := P l0 hm0 y0 hw0
  refine (laws_FnLines.calls k _ _ l0 true w (Kd.C_of_reads (d := (0 : Int)) (h1 := fun _ => rfl) hr0) hc0 h).mono ?_
  rintro e w' ⟨rfl, hd⟩
  exact ⟨rfl, hd⟩

end Go.Proofs.Ytmkfodlmddbdeaa.PFnLines
