-- Written by a program of this session, out of the translation.
import Derived.Test.YtglmjmkbahfgaaaPFnExactPlainAtx0
import Derived.Test.YtglmjmkbahfgaaaPFnExactPlainAtx1
import Derived.Test.YtglmjmkbahfgaaaPFnExactPlainAtx2
import Derived.Test.YtglmjmkbahfgaaaPFnExactPlainAtx3
import Derived.Test.YtglmjmkbahfgaaaPFnExactPlainAtx4
namespace Go.Proofs.Ytglmjmkbahfgaaa.PFnExactPlainAt
open Go.RowKit Go.Proofs.YtglmjmkbahfgaaaW.PrintWords Go.Proofs.YtglmjmkbahfgaaaW.PrintLast Go.Proofs.YtglmjmkbahfgaaaW.PrintMore
attribute [local go_sem] max2_int min2_int max_two min_two max_three min_three max_four min_four   -- for this text's walks alone
set_option linter.unusedVariables false
set_option linter.unusedSimpArgs false

/-! ### spec_PlainAt: function 13 -/
mutual
def spec_PlainAt.l0 : Nat → ByteArray → Int → Bool → Int → List (S58) → Option (ByteArray × Int × Bool)
  | 0, _, _, _, _, _ => none
  | k + 1, x0, x2, x3, x11, x12 => (some (([] : List (S58)) : List (S58))).bind fun y139 => ((spec_White.f k x0 x11).bind fun t142 => (if t142 ≥ (x0.size : Int) then (spec_PlainAt.j1 k x0 x2 x3 x11 x12 y139 t142 true) else (if 0 ≤ t142 then (if t142 < (x0.size : Int) then (spec_PlainAt.j1 k x0 x2 x3 x11 x12 y139 t142 ((bt x0 t142) != 10)) else (none)) else (none))))
def spec_PlainAt.j1 : Nat → ByteArray → Int → Bool → Int → List (S58) → List (S58) → Int → Bool → Option (ByteArray × Int × Bool)
  | 0, _, _, _, _, _, _, _, _ => none
  | k + 1, x0, x2, x3, x11, x12, x13, x14, x46 => if x46 = true then ((spec_FoldFlow.f k x12).bind fun t143 => (some (t143, x11, true))) else (spec_PlainAt.l1 k x0 x2 x3 x11 x12 x13 (wrap64 (x14 + 1)))
def spec_PlainAt.j3 : Nat → ByteArray → Int → Bool → Int → List (S58) → List (S58) → Int → Option (ByteArray × Int × Bool)
  | 0, _, _, _, _, _, _, _ => none
  | k + 1, x0, x2, x3, x11, x12, x13, x14 => (spec_MarkAt.f k x0 x14).bind fun t153 => (if t153 > 0 then (spec_PlainAt.j4 k x0 x2 x3 x11 x12 x13 x14 true) else (if x3 = true then (spec_PlainAt.j4 k x0 x2 x3 x11 x12 x13 x14 false) else ((spec_IndentAt.f k x0 x14).bind fun t154 => (spec_PlainAt.j4 k x0 x2 x3 x11 x12 x13 x14 (decide (t154 ≤ x2))))))
def spec_PlainAt.j4 : Nat → ByteArray → Int → Bool → Int → List (S58) → List (S58) → Int → Bool → Option (ByteArray × Int × Bool)
  | 0, _, _, _, _, _, _, _, _ => none
  | k + 1, x0, x2, x3, x11, x12, x13, x14, x88 => if x88 = true then ((spec_FoldFlow.f k x12).bind fun t155 => (some (t155, x11, true))) else ((spec_White.f k x0 x14).bind fun t156 => (if t156 ≥ (x0.size : Int) then ((spec_FoldFlow.f k x12).bind fun t157 => (some (t157, x11, true))) else (if 0 ≤ t156 then (if t156 < (x0.size : Int) then (if (bt x0 t156) = 10 then ((spec_FoldFlow.f k x12).bind fun t158 => (some (t158, x11, true))) else (if (bt x0 t156) = 35 then ((spec_FoldFlow.f k x12).bind fun t159 => (some (t159, x11, true))) else ((spec_PlainEnd.f k x0 t156 x3).bind fun t160 => (if t160 = t156 then ((spec_FoldFlow.f k x12).bind fun t161 => (some (t161, x11, true))) else ((spec_PlainEnd.f k x0 t156 x3).bind fun t162 => (if x12.length + x13.length < 5864062014805 then ((some (x12 ++ x13 : List (S58))).bind fun y163 => (if t156 ≤ t162 then (if t162 ≤ (x0.size : Int) then ((some (([(⟨x0.extract (t156 : Int).toNat (t162 : Int).toNat, false⟩ : S58)] : List (S58)) : List (S58))).bind fun y166 => (if y163.length + y166.length < 5864062014805 then (spec_PlainAt.l0 k x0 x2 x3 t162 (y163 ++ y166)) else (none))) else (none)) else (none))) else (none))))))) else (none)) else (none))))
def spec_PlainAt.l1 : Nat → ByteArray → Int → Bool → Int → List (S58) → List (S58) → Int → Option (ByteArray × Int × Bool)
  | 0, _, _, _, _, _, _, _ => none
  | k + 1, x0, x2, x3, x11, x12, x13, x14 => if x14 < (x0.size : Int) then ((spec_Lone.f k x0 x14).bind fun t144 => (if t144 = true then ((spec_EndAt.f k x0 x14).bind fun t145 => (if t145 < (x0.size : Int) then ((some (([(⟨(⟨#[]⟩ : ByteArray), false⟩ : S58)] : List (S58)) : List (S58))).bind fun y146 => (if x13.length + y146.length < 5864062014805 then ((spec_EndAt.f k x0 x14).bind fun t152 => (spec_PlainAt.l1 k x0 x2 x3 x11 x12 (x13 ++ y146) (wrap64 (t152 + 1)))) else (none))) else (spec_PlainAt.j3 k x0 x2 x3 x11 x12 x13 x14))) else (spec_PlainAt.j3 k x0 x2 x3 x11 x12 x13 x14))) else (spec_PlainAt.j3 k x0 x2 x3 x11 x12 x13 x14)
end
def spec_PlainAt.f (k : Nat) (a0 : ByteArray) (a1 : Int) (a2 : Int) (a3 : Bool) : Option (ByteArray × Int × Bool) := (spec_l01P.f a0 a1).bind fun t133 => ((spec_PlainFirst.f k a0 t133 a3).bind fun t134 => (if t134 = true then ((spec_PlainEnd.f k a0 t133 a3).bind fun t135 => (if 0 ≤ t133 then (if t133 ≤ t135 then (if t135 ≤ (a0.size : Int) then (spec_PlainAt.l0 k a0 a2 a3 t135 (([(⟨a0.extract (t133 : Int).toNat (t135 : Int).toNat, false⟩ : S58)] : List (S58)))) else (none)) else (none)) else (none))) else (some ((⟨#[]⟩ : ByteArray), 0, false))))
theorem spec_PlainAt.mono_l : ∀ k, (∀ y0 y1 y2 y3 y4, LeO (spec_PlainAt.l0 k y0 y1 y2 y3 y4) (spec_PlainAt.l0 (k + 1) y0 y1 y2 y3 y4)) ∧ (∀ y0 y1 y2 y3 y4 y5 y6 y7, LeO (spec_PlainAt.j1 k y0 y1 y2 y3 y4 y5 y6 y7) (spec_PlainAt.j1 (k + 1) y0 y1 y2 y3 y4 y5 y6 y7)) ∧ (∀ y0 y1 y2 y3 y4 y5 y6, LeO (spec_PlainAt.j3 k y0 y1 y2 y3 y4 y5 y6) (spec_PlainAt.j3 (k + 1) y0 y1 y2 y3 y4 y5 y6)) ∧ (∀ y0 y1 y2 y3 y4 y5 y6 y7, LeO (spec_PlainAt.j4 k y0 y1 y2 y3 y4 y5 y6 y7) (spec_PlainAt.j4 (k + 1) y0 y1 y2 y3 y4 y5 y6 y7)) ∧ (∀ y0 y1 y2 y3 y4 y5 y6, LeO (spec_PlainAt.l1 k y0 y1 y2 y3 y4 y5 y6) (spec_PlainAt.l1 (k + 1) y0 y1 y2 y3 y4 y5 y6))
  | 0 => ⟨fun _ _ _ _ _ r h => by simp [spec_PlainAt.l0] at h, fun _ _ _ _ _ _ _ _ r h => by simp [spec_PlainAt.j1] at h, fun _ _ _ _ _ _ _ r h => by simp [spec_PlainAt.j3] at h, fun _ _ _ _ _ _ _ _ r h => by simp [spec_PlainAt.j4] at h, fun _ _ _ _ _ _ _ r h => by simp [spec_PlainAt.l1] at h⟩
  | k + 1 => by
    obtain ⟨ih0, ih1, ih2, ih3, ih4⟩ := spec_PlainAt.mono_l k
    refine ⟨?_, ?_, ?_, ?_, ?_⟩
    · intro y0 y1 y2 y3 y4
      unfold spec_PlainAt.l0
      repeat' first
      | (with_reducible exact ih0 _ _ _ _ _)
      | (with_reducible exact ih1 _ _ _ _ _ _ _ _)
      | (with_reducible exact ih2 _ _ _ _ _ _ _)
      | (with_reducible exact ih3 _ _ _ _ _ _ _ _)
      | (with_reducible exact ih4 _ _ _ _ _ _ _)
      | (with_reducible exact spec_EndAt.mono _ _ _)
      | (with_reducible exact spec_FoldFlow.mono _ _)
      | (with_reducible exact spec_IndentAt.mono _ _ _)
      | (with_reducible exact spec_Lone.mono _ _ _)
      | (with_reducible exact spec_MarkAt.mono _ _ _)
      | (with_reducible exact spec_PlainEnd.mono _ _ _ _)
      | (with_reducible exact spec_PlainFirst.mono _ _ _ _)
      | (with_reducible exact spec_White.mono _ _ _)
      | (with_reducible exact LeO.refl _)
      | (with_reducible exact LeO.none _)
      | (with_reducible refine LeO.ite ?_ ?_)
      | (with_reducible refine LeO.bind ?_ (fun _ => ?_))
      | exact ih0 _ _ _ _ _
      | exact ih1 _ _ _ _ _ _ _ _
      | exact ih2 _ _ _ _ _ _ _
      | exact ih3 _ _ _ _ _ _ _ _
      | exact ih4 _ _ _ _ _ _ _
      | exact spec_EndAt.mono _ _ _
      | exact spec_FoldFlow.mono _ _
      | exact spec_IndentAt.mono _ _ _
      | exact spec_Lone.mono _ _ _
      | exact spec_MarkAt.mono _ _ _
      | exact spec_PlainEnd.mono _ _ _ _
      | exact spec_PlainFirst.mono _ _ _ _
      | exact spec_White.mono _ _ _
      | exact LeO.none _
      | refine LeO.ite ?_ ?_
      | refine LeO.bind ?_ (fun _ => ?_)
    · intro y0 y1 y2 y3 y4 y5 y6 y7
      unfold spec_PlainAt.j1
      repeat' first
      | (with_reducible exact ih0 _ _ _ _ _)
      | (with_reducible exact ih1 _ _ _ _ _ _ _ _)
      | (with_reducible exact ih2 _ _ _ _ _ _ _)
      | (with_reducible exact ih3 _ _ _ _ _ _ _ _)
      | (with_reducible exact ih4 _ _ _ _ _ _ _)
      | (with_reducible exact spec_EndAt.mono _ _ _)
      | (with_reducible exact spec_FoldFlow.mono _ _)
      | (with_reducible exact spec_IndentAt.mono _ _ _)
      | (with_reducible exact spec_Lone.mono _ _ _)
      | (with_reducible exact spec_MarkAt.mono _ _ _)
      | (with_reducible exact spec_PlainEnd.mono _ _ _ _)
      | (with_reducible exact spec_PlainFirst.mono _ _ _ _)
      | (with_reducible exact spec_White.mono _ _ _)
      | (with_reducible exact LeO.refl _)
      | (with_reducible exact LeO.none _)
      | (with_reducible refine LeO.ite ?_ ?_)
      | (with_reducible refine LeO.bind ?_ (fun _ => ?_))
      | exact ih0 _ _ _ _ _
      | exact ih1 _ _ _ _ _ _ _ _
      | exact ih2 _ _ _ _ _ _ _
      | exact ih3 _ _ _ _ _ _ _ _
      | exact ih4 _ _ _ _ _ _ _
      | exact spec_EndAt.mono _ _ _
      | exact spec_FoldFlow.mono _ _
      | exact spec_IndentAt.mono _ _ _
      | exact spec_Lone.mono _ _ _
      | exact spec_MarkAt.mono _ _ _
      | exact spec_PlainEnd.mono _ _ _ _
      | exact spec_PlainFirst.mono _ _ _ _
      | exact spec_White.mono _ _ _
      | exact LeO.none _
      | refine LeO.ite ?_ ?_
      | refine LeO.bind ?_ (fun _ => ?_)
    · intro y0 y1 y2 y3 y4 y5 y6
      unfold spec_PlainAt.j3
      repeat' first
      | (with_reducible exact ih0 _ _ _ _ _)
      | (with_reducible exact ih1 _ _ _ _ _ _ _ _)
      | (with_reducible exact ih2 _ _ _ _ _ _ _)
      | (with_reducible exact ih3 _ _ _ _ _ _ _ _)
      | (with_reducible exact ih4 _ _ _ _ _ _ _)
      | (with_reducible exact spec_EndAt.mono _ _ _)
      | (with_reducible exact spec_FoldFlow.mono _ _)
      | (with_reducible exact spec_IndentAt.mono _ _ _)
      | (with_reducible exact spec_Lone.mono _ _ _)
      | (with_reducible exact spec_MarkAt.mono _ _ _)
      | (with_reducible exact spec_PlainEnd.mono _ _ _ _)
      | (with_reducible exact spec_PlainFirst.mono _ _ _ _)
      | (with_reducible exact spec_White.mono _ _ _)
      | (with_reducible exact LeO.refl _)
      | (with_reducible exact LeO.none _)
      | (with_reducible refine LeO.ite ?_ ?_)
      | (with_reducible refine LeO.bind ?_ (fun _ => ?_))
      | exact ih0 _ _ _ _ _
      | exact ih1 _ _ _ _ _ _ _ _
      | exact ih2 _ _ _ _ _ _ _
      | exact ih3 _ _ _ _ _ _ _ _
      | exact ih4 _ _ _ _ _ _ _
      | exact spec_EndAt.mono _ _ _
      | exact spec_FoldFlow.mono _ _
      | exact spec_IndentAt.mono _ _ _
      | exact spec_Lone.mono _ _ _
      | exact spec_MarkAt.mono _ _ _
      | exact spec_PlainEnd.mono _ _ _ _
      | exact spec_PlainFirst.mono _ _ _ _
      | exact spec_White.mono _ _ _
      | exact LeO.none _
      | refine LeO.ite ?_ ?_
      | refine LeO.bind ?_ (fun _ => ?_)
    · intro y0 y1 y2 y3 y4 y5 y6 y7
      unfold spec_PlainAt.j4
      repeat' first
      | (with_reducible exact ih0 _ _ _ _ _)
      | (with_reducible exact ih1 _ _ _ _ _ _ _ _)
      | (with_reducible exact ih2 _ _ _ _ _ _ _)
      | (with_reducible exact ih3 _ _ _ _ _ _ _ _)
      | (with_reducible exact ih4 _ _ _ _ _ _ _)
      | (with_reducible exact spec_EndAt.mono _ _ _)
      | (with_reducible exact spec_FoldFlow.mono _ _)
      | (with_reducible exact spec_IndentAt.mono _ _ _)
      | (with_reducible exact spec_Lone.mono _ _ _)
      | (with_reducible exact spec_MarkAt.mono _ _ _)
      | (with_reducible exact spec_PlainEnd.mono _ _ _ _)
      | (with_reducible exact spec_PlainFirst.mono _ _ _ _)
      | (with_reducible exact spec_White.mono _ _ _)
      | (with_reducible exact LeO.refl _)
      | (with_reducible exact LeO.none _)
      | (with_reducible refine LeO.ite ?_ ?_)
      | (with_reducible refine LeO.bind ?_ (fun _ => ?_))
      | exact ih0 _ _ _ _ _
      | exact ih1 _ _ _ _ _ _ _ _
      | exact ih2 _ _ _ _ _ _ _
      | exact ih3 _ _ _ _ _ _ _ _
      | exact ih4 _ _ _ _ _ _ _
      | exact spec_EndAt.mono _ _ _
      | exact spec_FoldFlow.mono _ _
      | exact spec_IndentAt.mono _ _ _
      | exact spec_Lone.mono _ _ _
      | exact spec_MarkAt.mono _ _ _
      | exact spec_PlainEnd.mono _ _ _ _
      | exact spec_PlainFirst.mono _ _ _ _
      | exact spec_White.mono _ _ _
      | exact LeO.none _
      | refine LeO.ite ?_ ?_
      | refine LeO.bind ?_ (fun _ => ?_)
    · intro y0 y1 y2 y3 y4 y5 y6
      unfold spec_PlainAt.l1
      repeat' first
      | (with_reducible exact ih0 _ _ _ _ _)
      | (with_reducible exact ih1 _ _ _ _ _ _ _ _)
      | (with_reducible exact ih2 _ _ _ _ _ _ _)
      | (with_reducible exact ih3 _ _ _ _ _ _ _ _)
      | (with_reducible exact ih4 _ _ _ _ _ _ _)
      | (with_reducible exact spec_EndAt.mono _ _ _)
      | (with_reducible exact spec_FoldFlow.mono _ _)
      | (with_reducible exact spec_IndentAt.mono _ _ _)
      | (with_reducible exact spec_Lone.mono _ _ _)
      | (with_reducible exact spec_MarkAt.mono _ _ _)
      | (with_reducible exact spec_PlainEnd.mono _ _ _ _)
      | (with_reducible exact spec_PlainFirst.mono _ _ _ _)
      | (with_reducible exact spec_White.mono _ _ _)
      | (with_reducible exact LeO.refl _)
      | (with_reducible exact LeO.none _)
      | (with_reducible refine LeO.ite ?_ ?_)
      | (with_reducible refine LeO.bind ?_ (fun _ => ?_))
      | exact ih0 _ _ _ _ _
      | exact ih1 _ _ _ _ _ _ _ _
      | exact ih2 _ _ _ _ _ _ _
      | exact ih3 _ _ _ _ _ _ _ _
      | exact ih4 _ _ _ _ _ _ _
      | exact spec_EndAt.mono _ _ _
      | exact spec_FoldFlow.mono _ _
      | exact spec_IndentAt.mono _ _ _
      | exact spec_Lone.mono _ _ _
      | exact spec_MarkAt.mono _ _ _
      | exact spec_PlainEnd.mono _ _ _ _
      | exact spec_PlainFirst.mono _ _ _ _
      | exact spec_White.mono _ _ _
      | exact LeO.none _
      | refine LeO.ite ?_ ?_
      | refine LeO.bind ?_ (fun _ => ?_)
theorem spec_PlainAt.mono : ∀ a0 a1 a2 a3 k, LeO (spec_PlainAt.f k a0 a1 a2 a3) (spec_PlainAt.f (k + 1) a0 a1 a2 a3) := by
  intro a0 a1 a2 a3 k
  obtain ⟨ih0, ih1, ih2, ih3, ih4⟩ := spec_PlainAt.mono_l k
  unfold spec_PlainAt.f
  repeat' first
      | (with_reducible exact ih0 _ _ _ _ _)
      | (with_reducible exact ih1 _ _ _ _ _ _ _ _)
      | (with_reducible exact ih2 _ _ _ _ _ _ _)
      | (with_reducible exact ih3 _ _ _ _ _ _ _ _)
      | (with_reducible exact ih4 _ _ _ _ _ _ _)
      | (with_reducible exact spec_EndAt.mono _ _ _)
      | (with_reducible exact spec_FoldFlow.mono _ _)
      | (with_reducible exact spec_IndentAt.mono _ _ _)
      | (with_reducible exact spec_Lone.mono _ _ _)
      | (with_reducible exact spec_MarkAt.mono _ _ _)
      | (with_reducible exact spec_PlainEnd.mono _ _ _ _)
      | (with_reducible exact spec_PlainFirst.mono _ _ _ _)
      | (with_reducible exact spec_White.mono _ _ _)
      | (with_reducible exact LeO.refl _)
      | (with_reducible exact LeO.none _)
      | (with_reducible refine LeO.ite ?_ ?_)
      | (with_reducible refine LeO.bind ?_ (fun _ => ?_))
      | exact ih0 _ _ _ _ _
      | exact ih1 _ _ _ _ _ _ _ _
      | exact ih2 _ _ _ _ _ _ _
      | exact ih3 _ _ _ _ _ _ _ _
      | exact ih4 _ _ _ _ _ _ _
      | exact spec_EndAt.mono _ _ _
      | exact spec_FoldFlow.mono _ _
      | exact spec_IndentAt.mono _ _ _
      | exact spec_Lone.mono _ _ _
      | exact spec_MarkAt.mono _ _ _
      | exact spec_PlainEnd.mono _ _ _ _
      | exact spec_PlainFirst.mono _ _ _ _
      | exact spec_White.mono _ _ _
      | exact LeO.none _
      | refine LeO.ite ?_ ?_
      | refine LeO.bind ?_ (fun _ => ?_)
def spec_PlainAt.T17 : Bool × List (List Nat × List Nat) := (true, [([], []), ([], []), ([0, 1], [0, 1]), ([], []), ([], []), ([], []), ([3, 4, 5], [3, 4, 5]), ([6], [6]), ([7], [7]), ([2, 8, 2], [2, 8]), ([9, 9, 0, 1, 2, 3, 4, 5, 6, 7, 8, 9], [0, 9])])
def spec_PlainAt.B17 : List Nat := [0, 0, 3, 0, 0, 0, 56, 120, 248, 511, 1023]
theorem spec_PlainAt.tab17 : rtab .any (opsOf Try.f13 17) = spec_PlainAt.T17 := by kernel_rfl
theorem spec_PlainAt.bits17 : waitsOk spec_PlainAt.T17.2 spec_PlainAt.B17 = true := by kernel_rfl
set_option maxHeartbeats 8000000 in
set_option maxRecDepth 100000 in
theorem spec_PlainAt.calls (k : Nat) (a0 : ByteArray) (a1 : Int) (a2 : Int) (a3 : Bool) (r1 : ByteArray) (r2 : Int) (r3 : Bool) (w : World) (h : spec_PlainAt.f k a0 a1 a2 a3 = some (r1, r2, r3)) :
    Calls Try.prog 13 #[.string a0, .int .i64 a1, .int .i64 a2, .bool a3] w fun e w' => e = .returned (.tuple #[.string r1, .int .i64 r2, .bool r3]) ∧ Below w.heap.size w w' := by
  have hu58 := Try.underlying58
  have HB := Aside0.mk (Below.refl w.heap.size w)
  have H : ((spec_l01P.f a0 a1).bind fun t133 => ((spec_PlainFirst.f k a0 t133 a3).bind fun t134 => (if t134 = true then ((spec_PlainEnd.f k a0 t133 a3).bind fun t135 => (if 0 ≤ t133 then (if t133 ≤ t135 then (if t135 ≤ (a0.size : Int) then (spec_PlainAt.l0 k a0 a2 a3 t135 (([(⟨a0.extract (t133 : Int).toNat (t135 : Int).toNat, false⟩ : S58)] : List (S58)))) else (none)) else (none)) else (none))) else (some ((⟨#[]⟩ : ByteArray), 0, false))))) = some (r1, r2, r3) := h
  clear h
  replace H := Option.bind_eq_some_iff.mp H
  obtain ⟨t133, A50, H⟩ := H
  replace H : ((spec_PlainFirst.f k a0 t133 a3).bind fun t134 => (if t134 = true then ((spec_PlainEnd.f k a0 t133 a3).bind fun t135 => (if 0 ≤ t133 then (if t133 ≤ t135 then (if t135 ≤ (a0.size : Int) then (spec_PlainAt.l0 k a0 a2 a3 t135 (([(⟨a0.extract (t133 : Int).toNat (t135 : Int).toNat, false⟩ : S58)] : List (S58)))) else (none)) else (none)) else (none))) else (some ((⟨#[]⟩ : ByteArray), 0, false)))) = some (r1, r2, r3) := H
  have A5 := Aside0.mk A50
  clear A50
  replace H := Option.bind_eq_some_iff.mp H
  obtain ⟨t134, A60, H⟩ := H
  replace H : (if t134 = true then ((spec_PlainEnd.f k a0 t133 a3).bind fun t135 => (if 0 ≤ t133 then (if t133 ≤ t135 then (if t135 ≤ (a0.size : Int) then (spec_PlainAt.l0 k a0 a2 a3 t135 (([(⟨a0.extract (t133 : Int).toNat (t135 : Int).toNat, false⟩ : S58)] : List (S58)))) else (none)) else (none)) else (none))) else (some ((⟨#[]⟩ : ByteArray), 0, false))) = some (r1, r2, r3) := H
  have A6 := Aside0.mk A60
  clear A60
  by_cases c7 : t134 = true
  · subst c7
    have H1 : ((spec_PlainEnd.f k a0 t133 a3).bind fun t135 => (if 0 ≤ t133 then (if t133 ≤ t135 then (if t135 ≤ (a0.size : Int) then (spec_PlainAt.l0 k a0 a2 a3 t135 (([(⟨a0.extract (t133 : Int).toNat (t135 : Int).toNat, false⟩ : S58)] : List (S58)))) else (none)) else (none)) else (none))) = some (r1, r2, r3) := by rw [if_pos rfl] at H; exact H
    clear H
    have H := H1
    clear H1
    replace H := Option.bind_eq_some_iff.mp H
    obtain ⟨t135, A80, H⟩ := H
    replace H : (if 0 ≤ t133 then (if t133 ≤ t135 then (if t135 ≤ (a0.size : Int) then (spec_PlainAt.l0 k a0 a2 a3 t135 (([(⟨a0.extract (t133 : Int).toNat (t135 : Int).toNat, false⟩ : S58)] : List (S58)))) else (none)) else (none)) else (none)) = some (r1, r2, r3) := H
    have A8 := Aside0.mk A80
    clear A80
    by_cases c9 : 0 ≤ t133
    · rw [if_pos c9] at H
      have c9b0 := eq_true c9
      have c9b1 : decide (0 ≤ t133) = true := decide_eq_true c9
      clear c9
      by_cases c10 : t133 ≤ t135
      · rw [if_pos c10] at H
        have c10b0 := eq_true c10
        have c10b1 : decide (t133 ≤ t135) = true := decide_eq_true c10
        clear c10
        by_cases c11 : t135 ≤ (a0.size : Int)
        · rw [if_pos c11] at H
          have c11b0 := eq_true c11
          have c11b1 : decide (t135 ≤ (a0.size : Int)) = true := decide_eq_true c11
          clear c11
          obtain ⟨y136, hy136⟩ : ∃ y_ : List (S58), y_ = (([(⟨a0.extract (t133 : Int).toNat (t135 : Int).toNat, false⟩ : S58)] : List (S58))) := ⟨_, rfl⟩
          replace H : (spec_PlainAt.l0 k a0 a2 a3 t135 y136) = some (r1, r2, r3) := by first | (rw [hy136]; with_reducible exact H) | (have H2_ := (Option.bind_some _ _).symm.trans H; rw [hy136]; with_reducible exact H2_) | (have H2_ := (Option.bind_some _ _).symm.trans H; with_reducible exact H2_) | with_reducible exact H | (rw [hy136]; exact H) | exact H
          have Ny136 := Aside0.mk hy136
          clear hy136
          have H' := Aside0.mk H
          clear H
          go_enter Try.func13, Try.ntmps13
          go_wp2_with (first | ((with_reducible refine gate_callee (f := 56) rfl ?_); refine goesL_ (some 17) rfl rfl Try.func56 (by kernel_rfl) rfl #[.string a0, .int .i64 a1] rfl (by (try simp only [List.map_toArray, List.map_cons, List.map_nil]); first | done | rfl | (simp only [List.length_drop, List.length_take]; rfl)) ?_; (with_reducible refine (spec_l01P.calls a0 a1 t133 _ A5.out).mono ?_); rintro e w' ⟨rfl, ⟨nd, rfl⟩⟩; refine ⟨_, rfl, ?_⟩) | ((with_reducible refine gate_callee (f := 57) rfl ?_); refine goesL_ (some 21) rfl rfl Try.func57 (by kernel_rfl) rfl #[.string a0, .int .i64 t133, .bool a3] rfl (by (try simp only [List.map_toArray, List.map_cons, List.map_nil]); first | done | rfl | (simp only [List.length_drop, List.length_take]; rfl)) ?_; (with_reducible refine (spec_PlainFirst.calls k a0 t133 a3 true _ A6.out).mono ?_); rintro e w12 ⟨rfl, hb⟩; refine ⟨_, rfl, ?_⟩; have n0_ := Aside0.mk (below_step (by repeat (first | (with_reducible first | exact HB.out | apply below_alloc | apply pw_below_drewN | apply below_drew1) | exact HB.out)) hb); clear HB; have HB := n0_; clear n0_; (try clear hb); (try clear hb2); (try clear hk); (try clear hi)) | ((with_reducible refine gate_callee (f := 58) rfl ?_); refine goesL_ (some 26) rfl rfl Try.func58 (by kernel_rfl) rfl #[.string a0, .int .i64 t133, .bool a3] rfl (by (try simp only [List.map_toArray, List.map_cons, List.map_nil]); first | done | rfl | (simp only [List.length_drop, List.length_take]; rfl)) ?_; (with_reducible refine (spec_PlainEnd.calls k a0 t133 a3 t135 _ A8.out).mono ?_); rintro e w' ⟨rfl, ⟨nd, rfl⟩⟩; refine ⟨_, rfl, ?_⟩) | ((with_reducible refine gate_dst (N := 32) rfl ?_); (try (refine gate_guard (by rfl) ?_; dsimp only)); refine Kd.R_lit k58 _ 58 ?hg (N := 32) ?hd (xs := ([(⟨a0.extract (t133 : Int).toNat (t135 : Int).toNat, false⟩ : S58)] : List (S58))) (inner := [.string (a0.extract (t133 : Int).toNat (t135 : Int).toNat), .bool false]) (ok := fun _ => True) (okp := fun _ => True) ?hr ?hp (fun _ hk => hk) trivial (Below.refl _ _) (Nat.le_refl _) (by simp) ?_; (case hd => rfl); (case hg => rfl); (case hr => first | (go_simp; done) | (go_simp; rfl)); (case hp => exact (Reps.c2 (show Kd.M k58 _ _ _ (⟨a0.extract (t133 : Int).toNat (t135 : Int).toNat, false⟩ : S58) [.string (a0.extract (t133 : Int).toNat (t135 : Int).toNat), .bool false] from (k58_mkM _ _ _ (⟨a0.extract (t133 : Int).toNat (t135 : Int).toNat, false⟩ : S58) )) (Reps.none _ _))); intro v137 w13 ho14 hb hg_ hnew_; clear hg_ hnew_; (first | rw [← Ny136.out] at ho14 | (simp only [Int.reduceToNat] at ho14; rw [← Ny136.out] at ho14)); have n0_ := Aside0.mk (Kd.R_lower ho14 (below_size (by repeat (first | (with_reducible first | exact HB.out | apply below_alloc | apply pw_below_drewN | apply below_drew1) | exact HB.out)))); have n1_ := Aside0.mk (below_step (by repeat (first | (with_reducible first | exact HB.out | apply below_alloc | apply pw_below_drewN | apply below_drew1) | exact HB.out)) hb); clear HB; have HO138 := n0_; have HB := n1_; clear n0_ n1_; clear hb ho14))
          go_loopg [11, 12] k (fun kq v11 v12 w' => ∃ (x11_1 : Int) (x12_1 : List (S58)), v11 = .int .i64 x11_1 ∧ Aside0 (spec_PlainAt.l0 kq a0 a2 a3 x11_1 x12_1 = some (r1, r2, r3)) ∧ Aside0 (kq ≤ k) ∧ Aside0 (Kd.R k58 58 w' w.heap.size (fun _ => True) v12 x12_1) ∧ Aside0 (Below w.heap.size w w'))
          case atStart => exact ⟨(t135), (y136), (by first | rfl | (simp; done) | (simp [*]; done)), H', ⟨Nat.le_refl _⟩, ⟨by (with_reducible repeat (first | apply Kd.R_alloc | apply Kd.R_drewN | apply Kd.R_drew)); exact HO138.out⟩, ⟨by repeat (first | (with_reducible first | exact HB.out | apply below_alloc | apply pw_below_drewN | apply below_drew1) | exact HB.out)⟩⟩
          case round =>
            clear H'
            try clear c1
            try clear c2
            try clear p2
            try clear c5
            try clear c7
            try clear c9
            try clear c9b0
            try clear c9b1
            try clear c10
            try clear c10b0
            try clear c10b1
            try clear c11
            try clear c11b0
            try clear c11b1
            try clear c13
            obtain ⟨x11_1, x12_1, rfl, HA, HK1, HO_12, HB⟩ := hrel
            cases gk with
            | zero => exact absurd HA.out (by simp [spec_PlainAt.l0])
            | succ k1 =>
              have H := HA.out
              clear HA
              simp only [spec_PlainAt.l0] at H
              obtain ⟨y139, hy139⟩ : ∃ y_ : List (S58), y_ = (([] : List (S58))) := ⟨_, rfl⟩
              replace H : ((spec_White.f k1 a0 x11_1).bind fun t142 => (if t142 ≥ (a0.size : Int) then (spec_PlainAt.j1 k1 a0 a2 a3 x11_1 x12_1 y139 t142 true) else (if 0 ≤ t142 then (if t142 < (a0.size : Int) then (spec_PlainAt.j1 k1 a0 a2 a3 x11_1 x12_1 y139 t142 ((bt a0 t142) != 10)) else (none)) else (none)))) = some (r1, r2, r3) := by first | (rw [hy139]; with_reducible exact H) | (have H2_ := (Option.bind_some _ _).symm.trans H; rw [hy139]; with_reducible exact H2_) | (have H2_ := (Option.bind_some _ _).symm.trans H; with_reducible exact H2_) | with_reducible exact H | (rw [hy139]; exact H) | exact H
              have Ny139 := Aside0.mk hy139
              clear hy139
              replace H := Option.bind_eq_some_iff.mp H
              obtain ⟨t142, A150, H⟩ := H
              replace H : (if t142 ≥ (a0.size : Int) then (spec_PlainAt.j1 k1 a0 a2 a3 x11_1 x12_1 y139 t142 true) else (if 0 ≤ t142 then (if t142 < (a0.size : Int) then (spec_PlainAt.j1 k1 a0 a2 a3 x11_1 x12_1 y139 t142 ((bt a0 t142) != 10)) else (none)) else (none))) = some (r1, r2, r3) := H
              have A15 := Aside0.mk A150
              clear A150
              have HC16 := Aside0.mk H
              clear H
              go_upto_region 8 with (first | ((with_reducible refine gate_dst (N := 33) rfl ?_); (try (refine gate_guard (by rfl) ?_; dsimp only)); refine Kd.R_lit k58 _ 58 ?hg (N := 33) ?hd (xs := ([] : List (S58))) (inner := []) (ok := fun _ => True) (okp := fun _ => True) ?hr ?hp (fun _ hk => hk) trivial (Below.refl _ _) (Nat.le_refl _) (by simp) ?_; (case hd => rfl); (case hg => rfl); (case hr => first | (go_simp; done) | (go_simp; rfl)); (case hp => exact (Reps.none _ _)); intro v140 w17 ho18 hb hg_ hnew_; clear hg_ hnew_; (first | rw [← Ny139.out] at ho18 | (simp only [Int.reduceToNat] at ho18; rw [← Ny139.out] at ho18)); have n0_ := Aside0.mk (Kd.R_elder' (by (with_reducible repeat (first | apply Kd.R_alloc | apply Kd.R_drewN | apply Kd.R_drew)); exact HO_12.out) (Kd.R_base ho18) hb); have n1_ := Aside0.mk (Kd.R_lower (Kd.R_new' ho18 (Kd.R_lt (by (with_reducible repeat (first | apply Kd.R_alloc | apply Kd.R_drewN | apply Kd.R_drew)); exact HO_12.out))) (below_size (by repeat (first | (with_reducible first | exact HB.out | apply below_alloc | apply pw_below_drewN | apply below_drew1) | exact HB.out)))); have n2_ := Aside0.mk (below_step (by repeat (first | (with_reducible first | exact HB.out | apply below_alloc | apply pw_below_drewN | apply below_drew1) | exact HB.out)) hb); clear HO_12; clear HB; have HO_12 := n0_; have HO141 := n1_; have HB := n2_; clear n0_ n1_ n2_; clear hb ho18) | ((with_reducible refine gate_callee (f := 59) rfl ?_); refine goesL_ (some 36) rfl rfl Try.func59 (by kernel_rfl) rfl #[.string a0, .int .i64 x11_1] rfl (by (try simp only [List.map_toArray, List.map_cons, List.map_nil]); first | done | rfl | (simp only [List.length_drop, List.length_take]; rfl)) ?_; (with_reducible refine (spec_White.calls k1 a0 x11_1 t142 _ A15.out).mono ?_); rintro e w' ⟨rfl, ⟨nd, rfl⟩⟩; refine ⟨_, rfl, ?_⟩))
              (try simp only [Act.put, List.setIfInBounds_toArray, List.set_cons_zero, List.set_cons_succ])
              go_cut [46] (fun v46 wc => ∃ (kq : Nat) (x46_15 : Bool), v46 = .bool x46_15 ∧ Aside0 (spec_PlainAt.j1 kq a0 a2 a3 x11_1 x12_1 y139 t142 x46_15 = some (r1, r2, r3)) ∧ Aside0 (kq ≤ k1) ∧ Aside0 (Kd.R k58 58 wc w.heap.size (fun k_ => some k_ ≠ (v140 : Value).ownBlock) u12 x12_1) ∧ Aside0 (Kd.R k58 58 wc w.heap.size (fun k_ => some k_ ≠ (u12 : Value).ownBlock) v140 y139) ∧ Aside0 (Below w.heap.size w wc))
              case first =>
                have H := HC16.out
                clear HC16
                by_cases c19 : t142 ≥ (a0.size : Int)
                · rw [if_pos c19] at H
                  have c19b0 : decide ((a0.size : Int) ≤ t142) = true := decide_eq_true c19
                  clear c19
                  (first | rw [c19b0] | (simp only [i64_w, i32_w]; rw [c19b0]) | skip)
                  have H' := Aside0.mk H
                  clear H
                  go_wp2
                  go_meet
                  case rel => exact ⟨_, (true), (by first | rfl | (simp; done) | (simp [*]; done)), H', ⟨by have := HK1.out; first | omega | exact Nat.le_refl _⟩, ⟨by (with_reducible repeat (first | apply Kd.R_alloc | apply Kd.R_drewN | apply Kd.R_drew)); exact Kd.R_mono HO_12.out (fun _ hk => hk.2)⟩, ⟨by (with_reducible repeat (first | apply Kd.R_alloc | apply Kd.R_drewN | apply Kd.R_drew)); exact Kd.R_mono HO141.out (fun _ hk => hk.2)⟩, ⟨by repeat (first | (with_reducible first | exact HB.out | apply below_alloc | apply pw_below_drewN | apply below_drew1) | exact HB.out)⟩⟩
                · rw [if_neg c19] at H
                  have c19b0 : decide ((a0.size : Int) ≤ t142) = false := decide_eq_false c19
                  clear c19
                  (first | rw [c19b0] | (simp only [i64_w, i32_w]; rw [c19b0]) | skip)
                  by_cases c20 : 0 ≤ t142
                  · rw [if_pos c20] at H
                    have c20b0 : decide (0 ≤ t142) = true := decide_eq_true c20
                    clear c20
                    by_cases c21 : t142 < (a0.size : Int)
                    · rw [if_pos c21] at H
                      have c21b0 : decide (t142 < (a0.size : Int)) = true := decide_eq_true c21
                      clear c21
                      have H' := Aside0.mk H
                      clear H
                      have p22 : 0 ≤ (t142 : Int) := of_decide_eq_true (by first | (with_reducible assumption) | assumption)
                      have q22 : t142 < (a0.size : Int) := of_decide_eq_true (by first | (with_reducible assumption) | assumption)
                      have hx22 := bt_at a0 t142
                      replace p22 := eq_true p22
                      replace q22 := eq_true q22
                      go_wp2
                      go_meet
                      case rel => exact ⟨_, (((bt a0 t142) != 10)), (by first | rfl | (simp; done) | (simp [*]; done)), H', ⟨by have := HK1.out; first | omega | exact Nat.le_refl _⟩, ⟨by (with_reducible repeat (first | apply Kd.R_alloc | apply Kd.R_drewN | apply Kd.R_drew)); exact Kd.R_mono HO_12.out (fun _ hk => hk.2)⟩, ⟨by (with_reducible repeat (first | apply Kd.R_alloc | apply Kd.R_drewN | apply Kd.R_drew)); exact Kd.R_mono HO141.out (fun _ hk => hk.2)⟩, ⟨by repeat (first | (with_reducible first | exact HB.out | apply below_alloc | apply pw_below_drewN | apply below_drew1) | exact HB.out)⟩⟩
                    · rw [if_neg c21] at H
                      exact absurd H (by simp)
                  · rw [if_neg c20] at H
                    exact absurd H (by simp)
              case rest =>
                clear HC16
                try clear c1
                try clear c2
                try clear p2
                try clear q2
                try clear hx2
                try clear c5
                try clear c7
                try clear c9
                try clear c9b0
                try clear c9b1
                try clear c10
                try clear c10b0
                try clear c10b1
                try clear c11
                try clear c11b0
                try clear c11b1
                try clear c13
                try clear c19
                try clear c19b0
                try clear c20
                try clear c20b0
                try clear c21
                try clear c21b0
                try clear p22
                try clear q22
                try clear hx22
                try clear p2
                try clear p22
                try clear q22
                obtain ⟨kq, x46_15, rfl, HA, HJ15, HO_12, HO_13, HB⟩ := hcut
                cases kq with
                | zero => exact absurd HA.out (by simp [spec_PlainAt.j1])
                | succ kj15 =>
                  have H := HA.out
                  clear HA
                  simp only [spec_PlainAt.j1] at H
                  by_cases c23 : x46_15 = true
                  · subst c23
                    have H1 : ((spec_FoldFlow.f kj15 x12_1).bind fun t143 => (some (t143, x11_1, true))) = some (r1, r2, r3) := by rw [if_pos rfl] at H; exact H
                    clear H
                    have H := H1
                    clear H1
                    replace H := Option.bind_eq_some_iff.mp H
                    obtain ⟨t143, A240, H⟩ := H
                    replace H : (some (t143, x11_1, true)) = some (r1, r2, r3) := H
                    have A24 := Aside0.mk A240
                    clear A240
                    simp only [Option.some.injEq, Prod.mk.injEq] at H
                    obtain ⟨rfl, rfl, rfl⟩ := H
                    obtain ⟨Ao25, co25, eo25⟩ := Kd.R_slice HO_12.out
                    subst eo25
                    go_wp2_with (first | ((with_reducible refine gate_callee (f := 64) rfl ?_); refine goesL_ (some 131) rfl rfl Try.func64 (by kernel_rfl) rfl #[.slice Ao25 x12_1.length co25] rfl (by (try simp only [List.map_toArray, List.map_cons, List.map_nil]); first | done | rfl | (simp only [List.length_drop, List.length_take]; rfl)) ?_; (with_reducible refine (spec_FoldFlow.calls kj15 _ _ x12_1 t143 _ ?side1 ?side2 A24.out).mono ?_); (case side1 => repeat (first | exact (Kd.R_reads' HO_12.out).2.2 | (with_reducible refine Kd.C_alloc ?_ _) | (with_reducible refine Kd.C_drewN ?_ _) | (with_reducible refine Kd.C_drew ?_))); (case side2 => exact (Kd.R_reads' HO_12.out).2.1); rintro e w26 ⟨rfl, hb⟩; refine ⟨_, rfl, ?_⟩; have n0_ := Aside0.mk (Kd.R_below (by (with_reducible repeat (first | apply Kd.R_alloc | apply Kd.R_drewN | apply Kd.R_drew)); exact HO_12.out) hb); have n1_ := Aside0.mk (Kd.R_below (by (with_reducible repeat (first | apply Kd.R_alloc | apply Kd.R_drewN | apply Kd.R_drew)); exact HO_13.out) hb); have n2_ := Aside0.mk (below_step (by repeat (first | (with_reducible first | exact HB.out | apply below_alloc | apply pw_below_drewN | apply below_drew1) | exact HB.out)) hb); clear HO_12; clear HO_13; clear HB; have HO_12 := n0_; have HO_13 := n1_; have HB := n2_; clear n0_ n1_ n2_; (try clear hb); (try clear hb2); (try clear hk); (try clear hi)))
                    go_ret3
                    exact ⟨by first | rfl | (simp [errW_none, errW_some] <;> rfl) | (simp [*, errW_none, errW_some] <;> rfl), by repeat (first | (with_reducible first | exact HB.out | apply below_alloc | apply pw_below_drewN | apply below_drew1) | exact HB.out)⟩
                  · replace c23 := Bool.eq_false_iff.mpr c23
                    subst c23
                    have H1 : (spec_PlainAt.l1 kj15 a0 a2 a3 x11_1 x12_1 y139 (wrap64 (t142 + 1))) = some (r1, r2, r3) := by rw [if_neg (show ¬ (false = true) by decide)] at H; exact H
                    clear H
                    have H := H1
                    clear H1
                    have HC27 := Aside0.mk H
                    clear H
                    go_upto_block 2 with (fail)
                    go_cut [13, 14] (fun v13 v14 wc => ∃ (kq : Nat) (x13_26 : List (S58)) (x14_26 : Int), v14 = .int .i64 x14_26 ∧ Aside0 (spec_PlainAt.j3 kq a0 a2 a3 x11_1 x12_1 x13_26 x14_26 = some (r1, r2, r3)) ∧ Aside0 (kq ≤ kj15) ∧ Aside0 (Kd.R k58 58 wc w.heap.size (fun k_ => some k_ ≠ (v13 : Value).ownBlock) u12 x12_1) ∧ Aside0 (Kd.R k58 58 wc w.heap.size (fun k_ => some k_ ≠ (u12 : Value).ownBlock) v13 x13_26) ∧ Aside0 (Below w.heap.size w wc))
                    case first =>
                      have H := HC27.out
                      clear HC27
                      have H' := Aside0.mk H
                      clear H
                      go_wp2
                      go_loopg [13, 14] kj15 (fun kq v13 v14 w' => ∃ (x13_3 : List (S58)) (x14_3 : Int), v14 = .int .i64 x14_3 ∧ Aside0 (spec_PlainAt.l1 kq a0 a2 a3 x11_1 x12_1 x13_3 x14_3 = some (r1, r2, r3)) ∧ Aside0 (kq ≤ kj15) ∧ Aside0 (Kd.R k58 58 w' w.heap.size (fun k_ => some k_ ≠ (v13 : Value).ownBlock) u12 x12_1) ∧ Aside0 (Kd.R k58 58 w' w.heap.size (fun k_ => some k_ ≠ (u12 : Value).ownBlock) v13 x13_3) ∧ Aside0 (Below w.heap.size w w'))
                      case atStart => exact ⟨(y139), (wrap64 (t142 + 1)), (by first | rfl | (simp; done) | (simp [*]; done)), H', ⟨Nat.le_refl _⟩, ⟨by (with_reducible repeat (first | apply Kd.R_alloc | apply Kd.R_drewN | apply Kd.R_drew)); exact HO_12.out⟩, ⟨by (with_reducible repeat (first | apply Kd.R_alloc | apply Kd.R_drewN | apply Kd.R_drew)); exact HO_13.out⟩, ⟨by repeat (first | (with_reducible first | exact HB.out | apply below_alloc | apply pw_below_drewN | apply below_drew1) | exact HB.out)⟩⟩
                      case round =>
                        clear H'
                        try clear c1
                        try clear c2
                        try clear p2
                        try clear q2
                        try clear hx2
                        try clear c5
                        try clear c6
                        try clear p6
                        try clear c7
                        try clear c9
                        try clear c9b0
                        try clear c9b1
                        try clear c10
                        try clear c10b0
                        try clear c10b1
                        try clear c11
                        try clear c11b0
                        try clear c11b1
                        try clear c13
                        try clear c19
                        try clear c19b0
                        try clear c20
                        try clear c20b0
                        try clear c21
                        try clear c21b0
                        try clear p22
                        try clear q22
                        try clear hx22
                        try clear c23
                        try clear p2
                        try clear p22
                        try clear q2
                        try clear q22
                        obtain ⟨x13_3, x14_3, rfl, HA, HK3, HO_12, HO_13, HB⟩ := hrel
                        cases gk with
                        | zero => exact absurd HA.out (by simp [spec_PlainAt.l1])
                        | succ k3 =>
                          have H := HA.out
                          clear HA
                          simp only [spec_PlainAt.l1] at H
                          by_cases c28 : x14_3 < (a0.size : Int)
                          · rw [if_pos c28] at H
                            have c28b0 : decide (x14_3 < (a0.size : Int)) = true := decide_eq_true c28
                            clear c28
                            (first | rw [c28b0] | (simp only [i64_w, i32_w]; rw [c28b0]) | skip)
                            replace H := Option.bind_eq_some_iff.mp H
                            obtain ⟨t144, A290, H⟩ := H
                            replace H : (if t144 = true then ((spec_EndAt.f k3 a0 x14_3).bind fun t145 => (if t145 < (a0.size : Int) then ((some (([(⟨(⟨#[]⟩ : ByteArray), false⟩ : S58)] : List (S58)) : List (S58))).bind fun y146 => (if x13_3.length + y146.length < 5864062014805 then ((spec_EndAt.f k3 a0 x14_3).bind fun t152 => (spec_PlainAt.l1 k3 a0 a2 a3 x11_1 x12_1 (x13_3 ++ y146) (wrap64 (t152 + 1)))) else (none))) else (spec_PlainAt.j3 k3 a0 a2 a3 x11_1 x12_1 x13_3 x14_3))) else (spec_PlainAt.j3 k3 a0 a2 a3 x11_1 x12_1 x13_3 x14_3)) = some (r1, r2, r3) := H
                            have A29 := Aside0.mk A290
                            clear A290
                            by_cases c30 : t144 = true
                            · subst c30
                              have H1 : ((spec_EndAt.f k3 a0 x14_3).bind fun t145 => (if t145 < (a0.size : Int) then ((some (([(⟨(⟨#[]⟩ : ByteArray), false⟩ : S58)] : List (S58)) : List (S58))).bind fun y146 => (if x13_3.length + y146.length < 5864062014805 then ((spec_EndAt.f k3 a0 x14_3).bind fun t152 => (spec_PlainAt.l1 k3 a0 a2 a3 x11_1 x12_1 (x13_3 ++ y146) (wrap64 (t152 + 1)))) else (none))) else (spec_PlainAt.j3 k3 a0 a2 a3 x11_1 x12_1 x13_3 x14_3))) = some (r1, r2, r3) := by rw [if_pos rfl] at H; exact H
                              clear H
                              have H := H1
                              clear H1
                              replace H := Option.bind_eq_some_iff.mp H
                              obtain ⟨t145, A310, H⟩ := H
                              replace H : (if t145 < (a0.size : Int) then ((some (([(⟨(⟨#[]⟩ : ByteArray), false⟩ : S58)] : List (S58)) : List (S58))).bind fun y146 => (if x13_3.length + y146.length < 5864062014805 then ((spec_EndAt.f k3 a0 x14_3).bind fun t152 => (spec_PlainAt.l1 k3 a0 a2 a3 x11_1 x12_1 (x13_3 ++ y146) (wrap64 (t152 + 1)))) else (none))) else (spec_PlainAt.j3 k3 a0 a2 a3 x11_1 x12_1 x13_3 x14_3)) = some (r1, r2, r3) := H
                              have A31 := Aside0.mk A310
                              clear A310
                              by_cases c32 : t145 < (a0.size : Int)
                              · rw [if_pos c32] at H
                                have c32b0 : decide (t145 < (a0.size : Int)) = true := decide_eq_true c32
                                clear c32
                                obtain ⟨y146, hy146⟩ : ∃ y_ : List (S58), y_ = (([(⟨(⟨#[]⟩ : ByteArray), false⟩ : S58)] : List (S58))) := ⟨_, rfl⟩
                                replace H : (if x13_3.length + y146.length < 5864062014805 then ((spec_EndAt.f k3 a0 x14_3).bind fun t152 => (spec_PlainAt.l1 k3 a0 a2 a3 x11_1 x12_1 (x13_3 ++ y146) (wrap64 (t152 + 1)))) else (none)) = some (r1, r2, r3) := by first | (rw [hy146]; with_reducible exact H) | (have H2_ := (Option.bind_some _ _).symm.trans H; rw [hy146]; with_reducible exact H2_) | (have H2_ := (Option.bind_some _ _).symm.trans H; with_reducible exact H2_) | with_reducible exact H | (rw [hy146]; exact H) | exact H
                                have Ny146 := Aside0.mk hy146
                                clear hy146
                                by_cases c33 : x13_3.length + y146.length < 5864062014805
                                · rw [if_pos c33] at H
                                  have LMc33 := Aside0.mk c33
                                  clear c33
                                  obtain ⟨y149, hy149⟩ : ∃ y_ : List (S58), y_ = (x13_3 ++ y146) := ⟨_, rfl⟩
                                  replace H : ((spec_EndAt.f k3 a0 x14_3).bind fun t152 => (spec_PlainAt.l1 k3 a0 a2 a3 x11_1 x12_1 y149 (wrap64 (t152 + 1)))) = some (r1, r2, r3) := by first | (rw [hy149]; with_reducible exact H) | (have H2_ := (Option.bind_some _ _).symm.trans H; rw [hy149]; with_reducible exact H2_) | (have H2_ := (Option.bind_some _ _).symm.trans H; with_reducible exact H2_) | with_reducible exact H | (rw [hy149]; exact H) | exact H
                                  have Ny149 := Aside0.mk hy149
                                  clear hy149
                                  replace H := Option.bind_eq_some_iff.mp H
                                  obtain ⟨t152, A340, H⟩ := H
                                  replace H : (spec_PlainAt.l1 k3 a0 a2 a3 x11_1 x12_1 y149 (wrap64 (t152 + 1))) = some (r1, r2, r3) := H
                                  have A34 := Aside0.mk A340
                                  clear A340
                                  have H' := Aside0.mk H
                                  clear H
                                  go_wp2_with (first | (go_at_call 60; (with_reducible refine (spec_Lone.calls k3 a0 x14_3 true _ A29.out).mono ?_); rintro e w' ⟨rfl, ⟨nd, rfl⟩⟩) | (go_at_call 61; (with_reducible refine (spec_EndAt.calls k3 a0 x14_3 t145 _ A31.out).mono ?_); rintro e w' ⟨rfl, ⟨nd, rfl⟩⟩) | ((with_reducible refine gate_dst (N := 68) rfl ?_); (try (refine gate_guard (by rfl) ?_; dsimp only)); refine Kd.R_lit k58 _ 58 ?hg (N := 68) ?hd (xs := ([(⟨(⟨#[]⟩ : ByteArray), false⟩ : S58)] : List (S58))) (inner := [.string (⟨#[]⟩ : ByteArray), .bool false]) (ok := fun _ => True) (okp := fun _ => True) ?hr ?hp (fun _ hk => hk) trivial (Below.refl _ _) (Nat.le_refl _) (by simp) ?_; (case hd => rfl); (case hg => rfl); (case hr => first | (go_simp; done) | (go_simp; rfl)); (case hp => exact (Reps.c2 (show Kd.M k58 _ _ _ (⟨(⟨#[]⟩ : ByteArray), false⟩ : S58) [.string (⟨#[]⟩ : ByteArray), .bool false] from (k58_mkM _ _ _ (⟨(⟨#[]⟩ : ByteArray), false⟩ : S58) )) (Reps.none _ _))); intro v147 w35 ho36 hb hg_ hnew_; clear hg_ hnew_; (first | rw [← Ny146.out] at ho36 | (simp only [Int.reduceToNat] at ho36; rw [← Ny146.out] at ho36)); have n0_ := Aside0.mk (Kd.R_elder' (by (with_reducible repeat (first | apply Kd.R_alloc | apply Kd.R_drewN | apply Kd.R_drew)); exact HO_12.out) (Kd.R_base ho36) hb); have n1_ := Aside0.mk (Kd.R_elder' (by (with_reducible repeat (first | apply Kd.R_alloc | apply Kd.R_drewN | apply Kd.R_drew)); exact HO_13.out) (Kd.R_base ho36) hb); have n2_ := Aside0.mk (Kd.R_lower (Kd.R_new' (Kd.R_new' ho36 (Kd.R_lt (by (with_reducible repeat (first | apply Kd.R_alloc | apply Kd.R_drewN | apply Kd.R_drew)); exact HO_12.out))) (Kd.R_lt (by (with_reducible repeat (first | apply Kd.R_alloc | apply Kd.R_drewN | apply Kd.R_drew)); exact HO_13.out))) (below_size (by repeat (first | (with_reducible first | exact HB.out | apply below_alloc | apply pw_below_drewN | apply below_drew1) | exact HB.out)))); have n3_ := Aside0.mk (below_step (by repeat (first | (with_reducible first | exact HB.out | apply below_alloc | apply pw_below_drewN | apply below_drew1) | exact HB.out)) hb); clear HO_12; clear HO_13; clear HB; have HO_12 := n0_; have HO_13 := n1_; have HO148 := n2_; have HB := n3_; clear n0_ n1_ n2_ n3_; clear hb ho36; obtain ⟨Ao38, co38, eo38⟩ := Kd.R_slice HO148.out; subst eo38) | ((with_reducible refine gate_builtin (b := .append) (xs := #[.tmp 66, .tmp 68]) rfl ?_); (try (refine gate_guard (by rfl) ?_; dsimp only)); at_builtin; refine Kd.R_append_rows k58 (w0 := w) w.heap.size rfl (.tmp 66) (.tmp 68) 56 58 (.agg #[(.string ⟨#[]⟩), (.bool false)]) 24 rfl Try.underlying56 info58 rfl (by decide) (by omega) u13 x13_3 y146 _ _ _ (fun k_ => some k_ ≠ (u12 : Value).ownBlock ∧ some k_ ≠ (.slice Ao38 y146.length co38 : Value).ownBlock) (fun _ => False) rfl rfl ?aO ?aR (fun _ _ h => h) (fun _ h => h.elim) ?aF ?aB ?aS ?aL ?_; (case aR => repeat (first | exact (Kd.R_reads' HO148.out).2.2 | (with_reducible refine Kd.C_alloc ?_ _) | (with_reducible refine Kd.C_drewN ?_ _) | (with_reducible refine Kd.C_drew ?_))); (case aB => exact (by repeat (first | (with_reducible first | exact HB.out | apply below_alloc | apply pw_below_drewN | apply below_drew1) | exact HB.out))); (case aF => exact (fun k_ hk => ⟨Kd.fresh' (Kd.R_lt (by (with_reducible repeat (first | apply Kd.R_alloc | apply Kd.R_drewN | apply Kd.R_drew)); exact HO_12.out)) k_ hk, Kd.fresh' (Kd.R_lt (by (with_reducible repeat (first | apply Kd.R_alloc | apply Kd.R_drewN | apply Kd.R_drew)); exact HO148.out)) k_ hk⟩)); (case aO => exact (by (with_reducible repeat (first | apply Kd.R_alloc | apply Kd.R_drewN | apply Kd.R_drew)); exact HO_13.out)); (case aS => exact (below_size (by repeat (first | (with_reducible first | exact HB.out | apply below_alloc | apply pw_below_drewN | apply below_drew1) | exact HB.out)))); (case aL => have := LMc33.out; omega); intro v150 w37 ho hb hg hat; rw [← Ny149.out] at ho; have n0_ := Aside0.mk (Kd.R_after (ok := (fun k_ => some k_ ≠ (.slice Ao38 y146.length co38 : Value).ownBlock)) (by (with_reducible repeat (first | apply Kd.R_alloc | apply Kd.R_drewN | apply Kd.R_drew)); exact Kd.R_mono HO_12.out (fun _ hk => ⟨hk.2, hk.1⟩)) hg hat); have n1_ := Aside0.mk (Kd.R_after (ok := (fun k_ => some k_ ≠ (u12 : Value).ownBlock)) (by (with_reducible repeat (first | apply Kd.R_alloc | apply Kd.R_drewN | apply Kd.R_drew)); exact Kd.R_mono HO148.out (fun _ hk => ⟨hk.1.2, hk.2⟩)) hg hat); have n2_ := Aside0.mk (hb); have n3_ := Aside0.mk (ho); clear HO_12; clear HO148; clear HB; clear HO_13; have HO_12 := n0_; have HO148 := n1_; have HB := n2_; have HO151 := n3_; clear n0_ n1_ n2_ n3_; clear ho hb hg hat) | ((with_reducible refine gate_callee (f := 61) rfl ?_); refine goesL_ (some 72) rfl rfl Try.func61 (by kernel_rfl) rfl #[.string a0, .int .i64 x14_3] rfl (by (try simp only [List.map_toArray, List.map_cons, List.map_nil]); first | done | rfl | (simp only [List.length_drop, List.length_take]; rfl)) ?_; (with_reducible refine (spec_EndAt.calls k3 a0 x14_3 t152 _ A34.out).mono ?_); rintro e w' ⟨rfl, ⟨nd, rfl⟩⟩; refine ⟨_, rfl, ?_⟩))
                                  go_roundg k3
                                  case measure => have := HK1.out; have := HJ15.out; have := HK3.out; omega
                                  case rel => exact ⟨(y149), (wrap64 (t152 + 1)), (by first | rfl | (simp; done) | (simp [*]; done)), H', ⟨by have := HK1.out; have := HJ15.out; have := HK3.out; omega⟩, ⟨by (with_reducible repeat (first | apply Kd.R_alloc | apply Kd.R_drewN | apply Kd.R_drew)); exact Kd.R_mono HO_12.out (fun _ hk => hk.2)⟩, ⟨by (with_reducible repeat (first | apply Kd.R_alloc | apply Kd.R_drewN | apply Kd.R_drew)); exact Kd.R_mono HO151.out (fun _ hk => hk.1)⟩, ⟨by repeat (first | (with_reducible first | exact HB.out | apply below_alloc | apply pw_below_drewN | apply below_drew1) | exact HB.out)⟩⟩
                                · rw [if_neg c33] at H
                                  exact absurd H (by simp)
                              · rw [if_neg c32] at H
                                have c32b0 : decide (t145 < (a0.size : Int)) = false := decide_eq_false c32
                                clear c32
                                have H' := Aside0.mk H
                                clear H
                                go_wp2_with (first | (go_at_call 60; (with_reducible refine (spec_Lone.calls k3 a0 x14_3 true _ A29.out).mono ?_); rintro e w' ⟨rfl, ⟨nd, rfl⟩⟩) | (go_at_call 61; (with_reducible refine (spec_EndAt.calls k3 a0 x14_3 t145 _ A31.out).mono ?_); rintro e w' ⟨rfl, ⟨nd, rfl⟩⟩))
                                go_meet
                                case rel => exact ⟨_, (x13_3), (x14_3), (by first | rfl | (simp; done) | (simp [*]; done)), H', ⟨by have := HK1.out; have := HJ15.out; have := HK3.out; first | omega | exact Nat.le_refl _⟩, ⟨by (with_reducible repeat (first | apply Kd.R_alloc | apply Kd.R_drewN | apply Kd.R_drew)); exact HO_12.out⟩, ⟨by (with_reducible repeat (first | apply Kd.R_alloc | apply Kd.R_drewN | apply Kd.R_drew)); exact HO_13.out⟩, ⟨by repeat (first | (with_reducible first | exact HB.out | apply below_alloc | apply pw_below_drewN | apply below_drew1) | exact HB.out)⟩⟩
                            · replace c30 := Bool.eq_false_iff.mpr c30
                              subst c30
                              have H1 : (spec_PlainAt.j3 k3 a0 a2 a3 x11_1 x12_1 x13_3 x14_3) = some (r1, r2, r3) := by rw [if_neg (show ¬ (false = true) by decide)] at H; exact H
                              clear H
                              have H := H1
                              clear H1
                              have H' := Aside0.mk H
                              clear H
                              go_wp2_with (first | (go_at_call 60; (with_reducible refine (spec_Lone.calls k3 a0 x14_3 false _ A29.out).mono ?_); rintro e w' ⟨rfl, ⟨nd, rfl⟩⟩))
                              go_meet
                              case rel => exact ⟨_, (x13_3), (x14_3), (by first | rfl | (simp; done) | (simp [*]; done)), H', ⟨by have := HK1.out; have := HJ15.out; have := HK3.out; first | omega | exact Nat.le_refl _⟩, ⟨by (with_reducible repeat (first | apply Kd.R_alloc | apply Kd.R_drewN | apply Kd.R_drew)); exact HO_12.out⟩, ⟨by (with_reducible repeat (first | apply Kd.R_alloc | apply Kd.R_drewN | apply Kd.R_drew)); exact HO_13.out⟩, ⟨by repeat (first | (with_reducible first | exact HB.out | apply below_alloc | apply pw_below_drewN | apply below_drew1) | exact HB.out)⟩⟩
                          · rw [if_neg c28] at H
                            have c28b0 : decide (x14_3 < (a0.size : Int)) = false := decide_eq_false c28
                            clear c28
                            (first | rw [c28b0] | (simp only [i64_w, i32_w]; rw [c28b0]) | skip)
                            have H' := Aside0.mk H
                            clear H
                            go_wp2
                            go_meet
                            case rel => exact ⟨_, (x13_3), (x14_3), (by first | rfl | (simp; done) | (simp [*]; done)), H', ⟨by have := HK1.out; have := HJ15.out; have := HK3.out; first | omega | exact Nat.le_refl _⟩, ⟨by (with_reducible repeat (first | apply Kd.R_alloc | apply Kd.R_drewN | apply Kd.R_drew)); exact HO_12.out⟩, ⟨by (with_reducible repeat (first | apply Kd.R_alloc | apply Kd.R_drewN | apply Kd.R_drew)); exact HO_13.out⟩, ⟨by repeat (first | (with_reducible first | exact HB.out | apply below_alloc | apply pw_below_drewN | apply below_drew1) | exact HB.out)⟩⟩
                    case rest =>
                      clear HC27
                      try clear c1
                      try clear c2
                      try clear p2
                      try clear q2
                      try clear hx2
                      try clear c3
                      try clear c5
                      try clear c6
                      try clear p6
                      try clear c7
                      try clear c9
                      try clear c9b0
                      try clear c9b1
                      try clear c10
                      try clear c10b0
                      try clear c10b1
                      try clear c11
                      try clear c11b0
                      try clear c11b1
                      try clear c13
                      try clear c19
                      try clear c19b0
                      try clear c20
                      try clear c20b0
                      try clear c21
                      try clear c21b0
                      try clear p22
                      try clear q22
                      try clear hx22
                      try clear c23
                      try clear c28
                      try clear c28b0
                      try clear c30
                      try clear c32
                      try clear c32b0
                      try clear c33
                      try clear p2
                      try clear p22
                      try clear p6
                      try clear q2
                      try clear q22
                      obtain ⟨kq, x13_26, x14_26, rfl, HA, HJ26, HO_12, HO_13, HB⟩ := hcut
                      cases kq with
                      | zero => exact absurd HA.out (by simp [spec_PlainAt.j3])
                      | succ kj26 =>
                        have H := HA.out
                        clear HA
                        simp only [spec_PlainAt.j3] at H
                        have HC39 := Aside0.mk H
                        clear H
                        go_upto_region 13 with (fail)
                        go_cut [88] (fun v88 wc => ∃ (kq : Nat) (x88_38 : Bool), v88 = .bool x88_38 ∧ Aside0 (spec_PlainAt.j4 kq a0 a2 a3 x11_1 x12_1 x13_26 x14_26 x88_38 = some (r1, r2, r3)) ∧ Aside0 (kq ≤ kj26) ∧ Aside0 (Kd.R k58 58 wc w.heap.size (fun k_ => some k_ ≠ (u13 : Value).ownBlock) u12 x12_1) ∧ Aside0 (Kd.R k58 58 wc w.heap.size (fun k_ => some k_ ≠ (u12 : Value).ownBlock) u13 x13_26) ∧ Aside0 (Below w.heap.size w wc))
                        case first =>
                          have H := HC39.out
                          clear HC39
                          replace H := Option.bind_eq_some_iff.mp H
                          obtain ⟨t153, A400, H⟩ := H
                          replace H : (if t153 > 0 then (spec_PlainAt.j4 kj26 a0 a2 a3 x11_1 x12_1 x13_26 x14_26 true) else (if a3 = true then (spec_PlainAt.j4 kj26 a0 a2 a3 x11_1 x12_1 x13_26 x14_26 false) else ((spec_IndentAt.f kj26 a0 x14_26).bind fun t154 => (spec_PlainAt.j4 kj26 a0 a2 a3 x11_1 x12_1 x13_26 x14_26 (decide (t154 ≤ a2)))))) = some (r1, r2, r3) := H
                          have A40 := Aside0.mk A400
                          clear A400
                          by_cases c41 : t153 > 0
                          · rw [if_pos c41] at H
                            have c41b0 : decide (0 < t153) = true := decide_eq_true c41
                            clear c41
                            (first | rw [c41b0] | (simp only [i64_w, i32_w]; rw [c41b0]) | skip)
                            have H' := Aside0.mk H
                            clear H
                            go_wp2_with (first | ((with_reducible refine gate_callee (f := 62) rfl ?_); refine goesL_ (some 76) rfl rfl Try.func62 (by kernel_rfl) rfl #[.string a0, .int .i64 x14_26] rfl (by (try simp only [List.map_toArray, List.map_cons, List.map_nil]); first | done | rfl | (simp only [List.length_drop, List.length_take]; rfl)) ?_; (with_reducible refine (spec_MarkAt.calls kj26 a0 x14_26 t153 _ A40.out).mono ?_); rintro e w' ⟨rfl, ⟨nd, rfl⟩⟩; refine ⟨_, rfl, ?_⟩))
                            go_meet
                            case rel => exact ⟨_, (true), (by first | rfl | (simp; done) | (simp [*]; done)), H', ⟨by have := HK1.out; have := HJ15.out; have := HJ26.out; first | omega | exact Nat.le_refl _⟩, ⟨by (with_reducible repeat (first | apply Kd.R_alloc | apply Kd.R_drewN | apply Kd.R_drew)); exact HO_12.out⟩, ⟨by (with_reducible repeat (first | apply Kd.R_alloc | apply Kd.R_drewN | apply Kd.R_drew)); exact HO_13.out⟩, ⟨by repeat (first | (with_reducible first | exact HB.out | apply below_alloc | apply pw_below_drewN | apply below_drew1) | exact HB.out)⟩⟩
                          · rw [if_neg c41] at H
                            have c41b0 : decide (0 < t153) = false := decide_eq_false c41
                            clear c41
                            (first | rw [c41b0] | (simp only [i64_w, i32_w]; rw [c41b0]) | skip)
                            by_cases c42 : a3 = true
                            · subst c42
                              have H1 : (spec_PlainAt.j4 kj26 a0 a2 true x11_1 x12_1 x13_26 x14_26 false) = some (r1, r2, r3) := by rw [if_pos rfl] at H; exact H
                              clear H
                              have H := H1
                              clear H1
                              have H' := Aside0.mk H
                              clear H
                              go_wp2_with (first | ((with_reducible refine gate_callee (f := 62) rfl ?_); refine goesL_ (some 76) rfl rfl Try.func62 (by kernel_rfl) rfl #[.string a0, .int .i64 x14_26] rfl (by (try simp only [List.map_toArray, List.map_cons, List.map_nil]); first | done | rfl | (simp only [List.length_drop, List.length_take]; rfl)) ?_; (with_reducible refine (spec_MarkAt.calls kj26 a0 x14_26 t153 _ A40.out).mono ?_); rintro e w' ⟨rfl, ⟨nd, rfl⟩⟩; refine ⟨_, rfl, ?_⟩))
                              go_meet
                              case rel => exact ⟨_, (false), (by first | rfl | (simp; done) | (simp [*]; done)), H', ⟨by have := HK1.out; have := HJ15.out; have := HJ26.out; first | omega | exact Nat.le_refl _⟩, ⟨by (with_reducible repeat (first | apply Kd.R_alloc | apply Kd.R_drewN | apply Kd.R_drew)); exact HO_12.out⟩, ⟨by (with_reducible repeat (first | apply Kd.R_alloc | apply Kd.R_drewN | apply Kd.R_drew)); exact HO_13.out⟩, ⟨by repeat (first | (with_reducible first | exact HB.out | apply below_alloc | apply pw_below_drewN | apply below_drew1) | exact HB.out)⟩⟩
                            · replace c42 := Bool.eq_false_iff.mpr c42
                              subst c42
                              have H1 : ((spec_IndentAt.f kj26 a0 x14_26).bind fun t154 => (spec_PlainAt.j4 kj26 a0 a2 false x11_1 x12_1 x13_26 x14_26 (decide (t154 ≤ a2)))) = some (r1, r2, r3) := by rw [if_neg (show ¬ (false = true) by decide)] at H; exact H
                              clear H
                              have H := H1
                              clear H1
                              replace H := Option.bind_eq_some_iff.mp H
                              obtain ⟨t154, A430, H⟩ := H
                              replace H : (spec_PlainAt.j4 kj26 a0 a2 false x11_1 x12_1 x13_26 x14_26 (decide (t154 ≤ a2))) = some (r1, r2, r3) := H
                              have A43 := Aside0.mk A430
                              clear A430
                              have H' := Aside0.mk H
                              clear H
                              go_wp2_with (first | ((with_reducible refine gate_callee (f := 62) rfl ?_); refine goesL_ (some 76) rfl rfl Try.func62 (by kernel_rfl) rfl #[.string a0, .int .i64 x14_26] rfl (by (try simp only [List.map_toArray, List.map_cons, List.map_nil]); first | done | rfl | (simp only [List.length_drop, List.length_take]; rfl)) ?_; (with_reducible refine (spec_MarkAt.calls kj26 a0 x14_26 t153 _ A40.out).mono ?_); rintro e w' ⟨rfl, ⟨nd, rfl⟩⟩; refine ⟨_, rfl, ?_⟩) | (go_at_call 63; (with_reducible refine (spec_IndentAt.calls kj26 a0 x14_26 t154 _ A43.out).mono ?_); rintro e w' ⟨rfl, ⟨nd, rfl⟩⟩))
                              go_meet
                              case rel => exact ⟨_, (decide (t154 ≤ a2)), (by first | rfl | (simp; done) | (simp [*]; done)), H', ⟨by have := HK1.out; have := HJ15.out; have := HJ26.out; first | omega | exact Nat.le_refl _⟩, ⟨by (with_reducible repeat (first | apply Kd.R_alloc | apply Kd.R_drewN | apply Kd.R_drew)); exact HO_12.out⟩, ⟨by (with_reducible repeat (first | apply Kd.R_alloc | apply Kd.R_drewN | apply Kd.R_drew)); exact HO_13.out⟩, ⟨by repeat (first | (with_reducible first | exact HB.out | apply below_alloc | apply pw_below_drewN | apply below_drew1) | exact HB.out)⟩⟩
                        case rest =>
                          clear HC39
                          try clear c1
                          try clear c2
                          try clear p2
                          try clear q2
                          try clear hx2
                          try clear c3
                          try clear c4
                          try clear c5
                          try clear c6
                          try clear p6
                          try clear c7
                          try clear c9
                          try clear c9b0
                          try clear c9b1
                          try clear c10
                          try clear c10b0
                          try clear c10b1
                          try clear c11
                          try clear c11b0
                          try clear c11b1
                          try clear c13
                          try clear c19
                          try clear c19b0
                          try clear c20
                          try clear c20b0
                          try clear c21
                          try clear c21b0
                          try clear p22
                          try clear q22
                          try clear hx22
                          try clear c23
                          try clear c28
                          try clear c28b0
                          try clear c30
                          try clear c32
                          try clear c32b0
                          try clear c33
                          try clear c41
                          try clear c41b0
                          try clear c42
                          try clear p2
                          try clear p22
                          try clear p6
                          try clear q2
                          try clear q22
                          obtain ⟨kq, x88_38, rfl, HA, HJ38, HO_12, HO_13, HB⟩ := hcut
                          cases kq with
                          | zero => exact absurd HA.out (by simp [spec_PlainAt.j4])
                          | succ kj38 =>
                            have H := HA.out
                            clear HA
                            simp only [spec_PlainAt.j4] at H
                            by_cases c44 : x88_38 = true
                            · subst c44
                              have H1 : ((spec_FoldFlow.f kj38 x12_1).bind fun t155 => (some (t155, x11_1, true))) = some (r1, r2, r3) := by rw [if_pos rfl] at H; exact H
                              clear H
                              have H := H1
                              clear H1
                              replace H := Option.bind_eq_some_iff.mp H
                              obtain ⟨t155, A450, H⟩ := H
                              replace H : (some (t155, x11_1, true)) = some (r1, r2, r3) := H
                              have A45 := Aside0.mk A450
                              clear A450
                              simp only [Option.some.injEq, Prod.mk.injEq] at H
                              obtain ⟨rfl, rfl, rfl⟩ := H
                              obtain ⟨Ao46, co46, eo46⟩ := Kd.R_slice HO_12.out
                              subst eo46
                              go_wp2_with (first | ((with_reducible refine gate_callee (f := 64) rfl ?_); refine goesL_ (some 131) rfl rfl Try.func64 (by kernel_rfl) rfl #[.slice Ao46 x12_1.length co46] rfl (by (try simp only [List.map_toArray, List.map_cons, List.map_nil]); first | done | rfl | (simp only [List.length_drop, List.length_take]; rfl)) ?_; (with_reducible refine (spec_FoldFlow.calls kj38 _ _ x12_1 t155 _ ?side1 ?side2 A45.out).mono ?_); (case side1 => repeat (first | exact (Kd.R_reads' HO_12.out).2.2 | (with_reducible refine Kd.C_alloc ?_ _) | (with_reducible refine Kd.C_drewN ?_ _) | (with_reducible refine Kd.C_drew ?_))); (case side2 => exact (Kd.R_reads' HO_12.out).2.1); rintro e w47 ⟨rfl, hb⟩; refine ⟨_, rfl, ?_⟩; have n0_ := Aside0.mk (Kd.R_below (by (with_reducible repeat (first | apply Kd.R_alloc | apply Kd.R_drewN | apply Kd.R_drew)); exact HO_12.out) hb); have n1_ := Aside0.mk (Kd.R_below (by (with_reducible repeat (first | apply Kd.R_alloc | apply Kd.R_drewN | apply Kd.R_drew)); exact HO_13.out) hb); have n2_ := Aside0.mk (below_step (by repeat (first | (with_reducible first | exact HB.out | apply below_alloc | apply pw_below_drewN | apply below_drew1) | exact HB.out)) hb); clear HO_12; clear HO_13; clear HB; have HO_12 := n0_; have HO_13 := n1_; have HB := n2_; clear n0_ n1_ n2_; (try clear hb); (try clear hb2); (try clear hk); (try clear hi)))
                              go_ret3
                              exact ⟨by first | rfl | (simp [errW_none, errW_some] <;> rfl) | (simp [*, errW_none, errW_some] <;> rfl), by repeat (first | (with_reducible first | exact HB.out | apply below_alloc | apply pw_below_drewN | apply below_drew1) | exact HB.out)⟩
                            · replace c44 := Bool.eq_false_iff.mpr c44
                              subst c44
                              have H1 : ((spec_White.f kj38 a0 x14_26).bind fun t156 => (if t156 ≥ (a0.size : Int) then ((spec_FoldFlow.f kj38 x12_1).bind fun t157 => (some (t157, x11_1, true))) else (if 0 ≤ t156 then (if t156 < (a0.size : Int) then (if (bt a0 t156) = 10 then ((spec_FoldFlow.f kj38 x12_1).bind fun t158 => (some (t158, x11_1, true))) else (if (bt a0 t156) = 35 then ((spec_FoldFlow.f kj38 x12_1).bind fun t159 => (some (t159, x11_1, true))) else ((spec_PlainEnd.f kj38 a0 t156 a3).bind fun t160 => (if t160 = t156 then ((spec_FoldFlow.f kj38 x12_1).bind fun t161 => (some (t161, x11_1, true))) else ((spec_PlainEnd.f kj38 a0 t156 a3).bind fun t162 => (if x12_1.length + x13_26.length < 5864062014805 then ((some (x12_1 ++ x13_26 : List (S58))).bind fun y163 => (if t156 ≤ t162 then (if t162 ≤ (a0.size : Int) then ((some (([(⟨a0.extract (t156 : Int).toNat (t162 : Int).toNat, false⟩ : S58)] : List (S58)) : List (S58))).bind fun y166 => (if y163.length + y166.length < 5864062014805 then (spec_PlainAt.l0 kj38 a0 a2 a3 t162 (y163 ++ y166)) else (none))) else (none)) else (none))) else (none))))))) else (none)) else (none)))) = some (r1, r2, r3) := by rw [if_neg (show ¬ (false = true) by decide)] at H; exact H
                              clear H
                              have H := H1
                              clear H1
                              replace H := Option.bind_eq_some_iff.mp H
                              obtain ⟨t156, A480, H⟩ := H
                              replace H : (if t156 ≥ (a0.size : Int) then ((spec_FoldFlow.f kj38 x12_1).bind fun t157 => (some (t157, x11_1, true))) else (if 0 ≤ t156 then (if t156 < (a0.size : Int) then (if (bt a0 t156) = 10 then ((spec_FoldFlow.f kj38 x12_1).bind fun t158 => (some (t158, x11_1, true))) else (if (bt a0 t156) = 35 then ((spec_FoldFlow.f kj38 x12_1).bind fun t159 => (some (t159, x11_1, true))) else ((spec_PlainEnd.f kj38 a0 t156 a3).bind fun t160 => (if t160 = t156 then ((spec_FoldFlow.f kj38 x12_1).bind fun t161 => (some (t161, x11_1, true))) else ((spec_PlainEnd.f kj38 a0 t156 a3).bind fun t162 => (if x12_1.length + x13_26.length < 5864062014805 then ((some (x12_1 ++ x13_26 : List (S58))).bind fun y163 => (if t156 ≤ t162 then (if t162 ≤ (a0.size : Int) then ((some (([(⟨a0.extract (t156 : Int).toNat (t162 : Int).toNat, false⟩ : S58)] : List (S58)) : List (S58))).bind fun y166 => (if y163.length + y166.length < 5864062014805 then (spec_PlainAt.l0 kj38 a0 a2 a3 t162 (y163 ++ y166)) else (none))) else (none)) else (none))) else (none))))))) else (none)) else (none))) = some (r1, r2, r3) := H
                              have A48 := Aside0.mk A480
                              clear A480
                              by_cases c49 : t156 ≥ (a0.size : Int)
                              · rw [if_pos c49] at H
                                have c49b0 : decide ((a0.size : Int) ≤ t156) = true := decide_eq_true c49
                                clear c49
                                replace H := Option.bind_eq_some_iff.mp H
                                obtain ⟨t157, A500, H⟩ := H
                                replace H : (some (t157, x11_1, true)) = some (r1, r2, r3) := H
                                have A50 := Aside0.mk A500
                                clear A500
                                simp only [Option.some.injEq, Prod.mk.injEq] at H
                                obtain ⟨rfl, rfl, rfl⟩ := H
                                go_wp2_with (first | ((with_reducible refine gate_callee (f := 59) rfl ?_); refine goesL_ (some 91) rfl rfl Try.func59 (by kernel_rfl) rfl #[.string a0, .int .i64 x14_26] rfl (by (try simp only [List.map_toArray, List.map_cons, List.map_nil]); first | done | rfl | (simp only [List.length_drop, List.length_take]; rfl)) ?_; (with_reducible refine (spec_White.calls kj38 a0 x14_26 t156 _ A48.out).mono ?_); rintro e w' ⟨rfl, ⟨nd, rfl⟩⟩; refine ⟨_, rfl, ?_⟩; obtain ⟨Ao51, co51, eo51⟩ := Kd.R_slice HO_12.out; subst eo51) | ((with_reducible refine gate_callee (f := 64) rfl ?_); refine goesL_ (some 131) rfl rfl Try.func64 (by kernel_rfl) rfl #[.slice Ao51 x12_1.length co51] rfl (by (try simp only [List.map_toArray, List.map_cons, List.map_nil]); first | done | rfl | (simp only [List.length_drop, List.length_take]; rfl)) ?_; (with_reducible refine (spec_FoldFlow.calls kj38 _ _ x12_1 t157 _ ?side1 ?side2 A50.out).mono ?_); (case side1 => repeat (first | exact (Kd.R_reads' HO_12.out).2.2 | (with_reducible refine Kd.C_alloc ?_ _) | (with_reducible refine Kd.C_drewN ?_ _) | (with_reducible refine Kd.C_drew ?_))); (case side2 => exact (Kd.R_reads' HO_12.out).2.1); rintro e w52 ⟨rfl, hb⟩; refine ⟨_, rfl, ?_⟩; have n0_ := Aside0.mk (Kd.R_below (by (with_reducible repeat (first | apply Kd.R_alloc | apply Kd.R_drewN | apply Kd.R_drew)); exact HO_12.out) hb); have n1_ := Aside0.mk (Kd.R_below (by (with_reducible repeat (first | apply Kd.R_alloc | apply Kd.R_drewN | apply Kd.R_drew)); exact HO_13.out) hb); have n2_ := Aside0.mk (below_step (by repeat (first | (with_reducible first | exact HB.out | apply below_alloc | apply pw_below_drewN | apply below_drew1) | exact HB.out)) hb); clear HO_12; clear HO_13; clear HB; have HO_12 := n0_; have HO_13 := n1_; have HB := n2_; clear n0_ n1_ n2_; (try clear hb); (try clear hb2); (try clear hk); (try clear hi)))
                                go_ret3
                                exact ⟨by first | rfl | (simp [errW_none, errW_some] <;> rfl) | (simp [*, errW_none, errW_some] <;> rfl), by repeat (first | (with_reducible first | exact HB.out | apply below_alloc | apply pw_below_drewN | apply below_drew1) | exact HB.out)⟩
                              · rw [if_neg c49] at H
                                have c49b0 : decide ((a0.size : Int) ≤ t156) = false := decide_eq_false c49
                                clear c49
                                by_cases c53 : 0 ≤ t156
                                · rw [if_pos c53] at H
                                  have c53b0 : decide (0 ≤ t156) = true := decide_eq_true c53
                                  clear c53
                                  by_cases c54 : t156 < (a0.size : Int)
                                  · rw [if_pos c54] at H
                                    have c54b0 : decide (t156 < (a0.size : Int)) = true := decide_eq_true c54
                                    clear c54
                                    by_cases c56 : (bt a0 t156) = 10
                                    · rw [if_pos c56] at H
                                      have c56b0 : ((bt a0 t156) == 10) = true := beq_iff_eq.mpr c56
                                      have c56b1 : ((bt a0 t156) != 10) = false := bne_eq_false_iff_eq.mpr c56
                                      clear c56
                                      replace H := Option.bind_eq_some_iff.mp H
                                      obtain ⟨t158, A570, H⟩ := H
                                      replace H : (some (t158, x11_1, true)) = some (r1, r2, r3) := H
                                      have A57 := Aside0.mk A570
                                      clear A570
                                      simp only [Option.some.injEq, Prod.mk.injEq] at H
                                      obtain ⟨rfl, rfl, rfl⟩ := H
                                      go_wp2_with (first | ((with_reducible refine gate_callee (f := 59) rfl ?_); refine goesL_ (some 91) rfl rfl Try.func59 (by kernel_rfl) rfl #[.string a0, .int .i64 x14_26] rfl (by (try simp only [List.map_toArray, List.map_cons, List.map_nil]); first | done | rfl | (simp only [List.length_drop, List.length_take]; rfl)) ?_; (with_reducible refine (spec_White.calls kj38 a0 x14_26 t156 _ A48.out).mono ?_); rintro e w' ⟨rfl, ⟨nd, rfl⟩⟩; refine ⟨_, rfl, ?_⟩; have p55 : 0 ≤ (t156 : Int) := of_decide_eq_true (by first | (with_reducible assumption) | assumption); have q55 : t156 < (a0.size : Int) := of_decide_eq_true (by first | (with_reducible assumption) | assumption); have hx55 := bt_at a0 t156; replace p55 := eq_true p55; replace q55 := eq_true q55; obtain ⟨Ao58, co58, eo58⟩ := Kd.R_slice HO_12.out; subst eo58) | ((with_reducible refine gate_callee (f := 64) rfl ?_); refine goesL_ (some 131) rfl rfl Try.func64 (by kernel_rfl) rfl #[.slice Ao58 x12_1.length co58] rfl (by (try simp only [List.map_toArray, List.map_cons, List.map_nil]); first | done | rfl | (simp only [List.length_drop, List.length_take]; rfl)) ?_; (with_reducible refine (spec_FoldFlow.calls kj38 _ _ x12_1 t158 _ ?side1 ?side2 A57.out).mono ?_); (case side1 => repeat (first | exact (Kd.R_reads' HO_12.out).2.2 | (with_reducible refine Kd.C_alloc ?_ _) | (with_reducible refine Kd.C_drewN ?_ _) | (with_reducible refine Kd.C_drew ?_))); (case side2 => exact (Kd.R_reads' HO_12.out).2.1); rintro e w59 ⟨rfl, hb⟩; refine ⟨_, rfl, ?_⟩; have n0_ := Aside0.mk (Kd.R_below (by (with_reducible repeat (first | apply Kd.R_alloc | apply Kd.R_drewN | apply Kd.R_drew)); exact HO_12.out) hb); have n1_ := Aside0.mk (Kd.R_below (by (with_reducible repeat (first | apply Kd.R_alloc | apply Kd.R_drewN | apply Kd.R_drew)); exact HO_13.out) hb); have n2_ := Aside0.mk (below_step (by repeat (first | (with_reducible first | exact HB.out | apply below_alloc | apply pw_below_drewN | apply below_drew1) | exact HB.out)) hb); clear HO_12; clear HO_13; clear HB; have HO_12 := n0_; have HO_13 := n1_; have HB := n2_; clear n0_ n1_ n2_; (try clear hb); (try clear hb2); (try clear hk); (try clear hi)))
                                      go_ret3
                                      exact ⟨by first | rfl | (simp [errW_none, errW_some] <;> rfl) | (simp [*, errW_none, errW_some] <;> rfl), by repeat (first | (with_reducible first | exact HB.out | apply below_alloc | apply pw_below_drewN | apply below_drew1) | exact HB.out)⟩
                                    · rw [if_neg c56] at H
                                      have c56b0 : ((bt a0 t156) == 10) = false := beq_eq_false_iff_ne.mpr c56
                                      have c56b1 : ((bt a0 t156) != 10) = true := bne_iff_ne.mpr c56
                                      by_cases c61 : (bt a0 t156) = 35
                                      · rw [if_pos c61] at H
                                        have c61b0 : ((bt a0 t156) == 35) = true := beq_iff_eq.mpr c61
                                        have c61b1 : ((bt a0 t156) != 35) = false := bne_eq_false_iff_eq.mpr c61
                                        clear c61
                                        replace H := Option.bind_eq_some_iff.mp H
                                        obtain ⟨t159, A620, H⟩ := H
                                        replace H : (some (t159, x11_1, true)) = some (r1, r2, r3) := H
                                        have A62 := Aside0.mk A620
                                        clear A620
                                        simp only [Option.some.injEq, Prod.mk.injEq] at H
                                        obtain ⟨rfl, rfl, rfl⟩ := H
                                        go_wp2_with (first | ((with_reducible refine gate_callee (f := 59) rfl ?_); refine goesL_ (some 91) rfl rfl Try.func59 (by kernel_rfl) rfl #[.string a0, .int .i64 x14_26] rfl (by (try simp only [List.map_toArray, List.map_cons, List.map_nil]); first | done | rfl | (simp only [List.length_drop, List.length_take]; rfl)) ?_; (with_reducible refine (spec_White.calls kj38 a0 x14_26 t156 _ A48.out).mono ?_); rintro e w' ⟨rfl, ⟨nd, rfl⟩⟩; refine ⟨_, rfl, ?_⟩; have p55 : 0 ≤ (t156 : Int) := of_decide_eq_true (by first | (with_reducible assumption) | assumption); have q55 : t156 < (a0.size : Int) := of_decide_eq_true (by first | (with_reducible assumption) | assumption); have hx55 := bt_at a0 t156; replace p55 := eq_true p55; replace q55 := eq_true q55; have p60 : 0 ≤ (t156 : Int) := of_decide_eq_true (by first | (with_reducible assumption) | assumption); have q60 : t156 < (a0.size : Int) := of_decide_eq_true (by first | (with_reducible assumption) | assumption); have hx60 := bt_at a0 t156; replace p60 := eq_true p60; replace q60 := eq_true q60; obtain ⟨Ao63, co63, eo63⟩ := Kd.R_slice HO_12.out; subst eo63) | ((with_reducible refine gate_callee (f := 64) rfl ?_); refine goesL_ (some 131) rfl rfl Try.func64 (by kernel_rfl) rfl #[.slice Ao63 x12_1.length co63] rfl (by (try simp only [List.map_toArray, List.map_cons, List.map_nil]); first | done | rfl | (simp only [List.length_drop, List.length_take]; rfl)) ?_; (with_reducible refine (spec_FoldFlow.calls kj38 _ _ x12_1 t159 _ ?side1 ?side2 A62.out).mono ?_); (case side1 => repeat (first | exact (Kd.R_reads' HO_12.out).2.2 | (with_reducible refine Kd.C_alloc ?_ _) | (with_reducible refine Kd.C_drewN ?_ _) | (with_reducible refine Kd.C_drew ?_))); (case side2 => exact (Kd.R_reads' HO_12.out).2.1); rintro e w64 ⟨rfl, hb⟩; refine ⟨_, rfl, ?_⟩; have n0_ := Aside0.mk (Kd.R_below (by (with_reducible repeat (first | apply Kd.R_alloc | apply Kd.R_drewN | apply Kd.R_drew)); exact HO_12.out) hb); have n1_ := Aside0.mk (Kd.R_below (by (with_reducible repeat (first | apply Kd.R_alloc | apply Kd.R_drewN | apply Kd.R_drew)); exact HO_13.out) hb); have n2_ := Aside0.mk (below_step (by repeat (first | (with_reducible first | exact HB.out | apply below_alloc | apply pw_below_drewN | apply below_drew1) | exact HB.out)) hb); clear HO_12; clear HO_13; clear HB; have HO_12 := n0_; have HO_13 := n1_; have HB := n2_; clear n0_ n1_ n2_; (try clear hb); (try clear hb2); (try clear hk); (try clear hi)))
                                        go_ret3
                                        exact ⟨by first | rfl | (simp [errW_none, errW_some] <;> rfl) | (simp [*, errW_none, errW_some] <;> rfl), by repeat (first | (with_reducible first | exact HB.out | apply below_alloc | apply pw_below_drewN | apply below_drew1) | exact HB.out)⟩
                                      · rw [if_neg c61] at H
                                        have c61b0 : ((bt a0 t156) == 35) = false := beq_eq_false_iff_ne.mpr c61
                                        have c61b1 : ((bt a0 t156) != 35) = true := bne_iff_ne.mpr c61
                                        replace H := Option.bind_eq_some_iff.mp H
                                        obtain ⟨t160, A650, H⟩ := H
                                        replace H : (if t160 = t156 then ((spec_FoldFlow.f kj38 x12_1).bind fun t161 => (some (t161, x11_1, true))) else ((spec_PlainEnd.f kj38 a0 t156 a3).bind fun t162 => (if x12_1.length + x13_26.length < 5864062014805 then ((some (x12_1 ++ x13_26 : List (S58))).bind fun y163 => (if t156 ≤ t162 then (if t162 ≤ (a0.size : Int) then ((some (([(⟨a0.extract (t156 : Int).toNat (t162 : Int).toNat, false⟩ : S58)] : List (S58)) : List (S58))).bind fun y166 => (if y163.length + y166.length < 5864062014805 then (spec_PlainAt.l0 kj38 a0 a2 a3 t162 (y163 ++ y166)) else (none))) else (none)) else (none))) else (none)))) = some (r1, r2, r3) := H
                                        have A65 := Aside0.mk A650
                                        clear A650
                                        by_cases c66 : t160 = t156
                                        · rw [if_pos c66] at H
                                          have c66b0 : (t160 == t156) = true := beq_iff_eq.mpr c66
                                          have c66b1 : (t160 != t156) = false := bne_eq_false_iff_eq.mpr c66
                                          clear c66
                                          replace H := Option.bind_eq_some_iff.mp H
                                          obtain ⟨t161, A670, H⟩ := H
                                          replace H : (some (t161, x11_1, true)) = some (r1, r2, r3) := H
                                          have A67 := Aside0.mk A670
                                          clear A670
                                          simp only [Option.some.injEq, Prod.mk.injEq] at H
                                          obtain ⟨rfl, rfl, rfl⟩ := H
                                          go_wp2_with (first | ((with_reducible refine gate_callee (f := 59) rfl ?_); refine goesL_ (some 91) rfl rfl Try.func59 (by kernel_rfl) rfl #[.string a0, .int .i64 x14_26] rfl (by (try simp only [List.map_toArray, List.map_cons, List.map_nil]); first | done | rfl | (simp only [List.length_drop, List.length_take]; rfl)) ?_; (with_reducible refine (spec_White.calls kj38 a0 x14_26 t156 _ A48.out).mono ?_); rintro e w' ⟨rfl, ⟨nd, rfl⟩⟩; refine ⟨_, rfl, ?_⟩; have p55 : 0 ≤ (t156 : Int) := of_decide_eq_true (by first | (with_reducible assumption) | assumption); have q55 : t156 < (a0.size : Int) := of_decide_eq_true (by first | (with_reducible assumption) | assumption); have hx55 := bt_at a0 t156; replace p55 := eq_true p55; replace q55 := eq_true q55; have p60 : 0 ≤ (t156 : Int) := of_decide_eq_true (by first | (with_reducible assumption) | assumption); have q60 : t156 < (a0.size : Int) := of_decide_eq_true (by first | (with_reducible assumption) | assumption); have hx60 := bt_at a0 t156; replace p60 := eq_true p60; replace q60 := eq_true q60) | (go_at_call 58; (with_reducible refine (spec_PlainEnd.calls kj38 a0 t156 a3 t160 _ A65.out).mono ?_); rintro e w' ⟨rfl, ⟨nd, rfl⟩⟩; obtain ⟨Ao68, co68, eo68⟩ := Kd.R_slice HO_12.out; subst eo68) | ((with_reducible refine gate_callee (f := 64) rfl ?_); refine goesL_ (some 131) rfl rfl Try.func64 (by kernel_rfl) rfl #[.slice Ao68 x12_1.length co68] rfl (by (try simp only [List.map_toArray, List.map_cons, List.map_nil]); first | done | rfl | (simp only [List.length_drop, List.length_take]; rfl)) ?_; (with_reducible refine (spec_FoldFlow.calls kj38 _ _ x12_1 t161 _ ?side1 ?side2 A67.out).mono ?_); (case side1 => repeat (first | exact (Kd.R_reads' HO_12.out).2.2 | (with_reducible refine Kd.C_alloc ?_ _) | (with_reducible refine Kd.C_drewN ?_ _) | (with_reducible refine Kd.C_drew ?_))); (case side2 => exact (Kd.R_reads' HO_12.out).2.1); rintro e w69 ⟨rfl, hb⟩; refine ⟨_, rfl, ?_⟩; have n0_ := Aside0.mk (Kd.R_below (by (with_reducible repeat (first | apply Kd.R_alloc | apply Kd.R_drewN | apply Kd.R_drew)); exact HO_12.out) hb); have n1_ := Aside0.mk (Kd.R_below (by (with_reducible repeat (first | apply Kd.R_alloc | apply Kd.R_drewN | apply Kd.R_drew)); exact HO_13.out) hb); have n2_ := Aside0.mk (below_step (by repeat (first | (with_reducible first | exact HB.out | apply below_alloc | apply pw_below_drewN | apply below_drew1) | exact HB.out)) hb); clear HO_12; clear HO_13; clear HB; have HO_12 := n0_; have HO_13 := n1_; have HB := n2_; clear n0_ n1_ n2_; (try clear hb); (try clear hb2); (try clear hk); (try clear hi)))
                                          go_ret3
                                          exact ⟨by first | rfl | (simp [errW_none, errW_some] <;> rfl) | (simp [*, errW_none, errW_some] <;> rfl), by repeat (first | (with_reducible first | exact HB.out | apply below_alloc | apply pw_below_drewN | apply below_drew1) | exact HB.out)⟩
                                        · rw [if_neg c66] at H
                                          have c66b0 : (t160 == t156) = false := beq_eq_false_iff_ne.mpr c66
                                          have c66b1 : (t160 != t156) = true := bne_iff_ne.mpr c66
                                          replace H := Option.bind_eq_some_iff.mp H
                                          obtain ⟨t162, A700, H⟩ := H
                                          replace H : (if x12_1.length + x13_26.length < 5864062014805 then ((some (x12_1 ++ x13_26 : List (S58))).bind fun y163 => (if t156 ≤ t162 then (if t162 ≤ (a0.size : Int) then ((some (([(⟨a0.extract (t156 : Int).toNat (t162 : Int).toNat, false⟩ : S58)] : List (S58)) : List (S58))).bind fun y166 => (if y163.length + y166.length < 5864062014805 then (spec_PlainAt.l0 kj38 a0 a2 a3 t162 (y163 ++ y166)) else (none))) else (none)) else (none))) else (none)) = some (r1, r2, r3) := H
                                          have A70 := Aside0.mk A700
                                          clear A700
                                          by_cases c71 : x12_1.length + x13_26.length < 5864062014805
                                          · rw [if_pos c71] at H
                                            have LMc71 := Aside0.mk c71
                                            clear c71
                                            obtain ⟨y163, hy163⟩ : ∃ y_ : List (S58), y_ = (x12_1 ++ x13_26) := ⟨_, rfl⟩
                                            replace H : (if t156 ≤ t162 then (if t162 ≤ (a0.size : Int) then ((some (([(⟨a0.extract (t156 : Int).toNat (t162 : Int).toNat, false⟩ : S58)] : List (S58)) : List (S58))).bind fun y166 => (if y163.length + y166.length < 5864062014805 then (spec_PlainAt.l0 kj38 a0 a2 a3 t162 (y163 ++ y166)) else (none))) else (none)) else (none)) = some (r1, r2, r3) := by first | (rw [hy163]; with_reducible exact H) | (have H2_ := (Option.bind_some _ _).symm.trans H; rw [hy163]; with_reducible exact H2_) | (have H2_ := (Option.bind_some _ _).symm.trans H; with_reducible exact H2_) | with_reducible exact H | (rw [hy163]; exact H) | exact H
                                            have Ny163 := Aside0.mk hy163
                                            clear hy163
                                            have c72b0 := eq_true (of_decide_eq_true (by first | (with_reducible assumption) | assumption) : 0 ≤ t156)
                                            by_cases c73 : t156 ≤ t162
                                            · rw [if_pos c73] at H
                                              have c73b0 := eq_true c73
                                              have c73b1 : decide (t156 ≤ t162) = true := decide_eq_true c73
                                              clear c73
                                              by_cases c74 : t162 ≤ (a0.size : Int)
                                              · rw [if_pos c74] at H
                                                have c74b0 := eq_true c74
                                                have c74b1 : decide (t162 ≤ (a0.size : Int)) = true := decide_eq_true c74
                                                clear c74
                                                obtain ⟨y166, hy166⟩ : ∃ y_ : List (S58), y_ = (([(⟨a0.extract (t156 : Int).toNat (t162 : Int).toNat, false⟩ : S58)] : List (S58))) := ⟨_, rfl⟩
                                                replace H : (if y163.length + y166.length < 5864062014805 then (spec_PlainAt.l0 kj38 a0 a2 a3 t162 (y163 ++ y166)) else (none)) = some (r1, r2, r3) := by first | (rw [hy166]; with_reducible exact H) | (have H2_ := (Option.bind_some _ _).symm.trans H; rw [hy166]; with_reducible exact H2_) | (have H2_ := (Option.bind_some _ _).symm.trans H; with_reducible exact H2_) | with_reducible exact H | (rw [hy166]; exact H) | exact H
                                                have Ny166 := Aside0.mk hy166
                                                clear hy166
                                                by_cases c75 : y163.length + y166.length < 5864062014805
                                                · rw [if_pos c75] at H
                                                  have LMc75 := Aside0.mk c75
                                                  clear c75
                                                  obtain ⟨y169, hy169⟩ : ∃ y_ : List (S58), y_ = (y163 ++ y166) := ⟨_, rfl⟩
                                                  replace H : (spec_PlainAt.l0 kj38 a0 a2 a3 t162 y169) = some (r1, r2, r3) := by first | (rw [hy169]; with_reducible exact H) | (have H2_ := (Option.bind_some _ _).symm.trans H; rw [hy169]; with_reducible exact H2_) | (have H2_ := (Option.bind_some _ _).symm.trans H; with_reducible exact H2_) | with_reducible exact H | (rw [hy169]; exact H) | exact H
                                                  have Ny169 := Aside0.mk hy169
                                                  clear hy169
                                                  have H' := Aside0.mk H
                                                  clear H
                                                  try go_wp2_with (first | ((with_reducible refine gate_callee (f := 59) rfl ?_); refine goesL_ (some 91) rfl rfl Try.func59 (by kernel_rfl) rfl #[.string a0, .int .i64 x14_26] rfl (by (try simp only [List.map_toArray, List.map_cons, List.map_nil]); first | done | rfl | (simp only [List.length_drop, List.length_take]; rfl)) ?_; (with_reducible refine (spec_White.calls kj38 a0 x14_26 t156 _ A48.out).mono ?_); rintro e w' ⟨rfl, ⟨nd, rfl⟩⟩; refine ⟨_, rfl, ?_⟩; have p55 : 0 ≤ (t156 : Int) := of_decide_eq_true (by first | (with_reducible assumption) | assumption); have q55 : t156 < (a0.size : Int) := of_decide_eq_true (by first | (with_reducible assumption) | assumption); have hx55 := bt_at a0 t156; replace p55 := eq_true p55; replace q55 := eq_true q55; have p60 : 0 ≤ (t156 : Int) := of_decide_eq_true (by first | (with_reducible assumption) | assumption); have q60 : t156 < (a0.size : Int) := of_decide_eq_true (by first | (with_reducible assumption) | assumption); have hx60 := bt_at a0 t156; replace p60 := eq_true p60; replace q60 := eq_true q60) | (go_at_call 58; (with_reducible refine (spec_PlainEnd.calls kj38 a0 t156 a3 t160 _ A65.out).mono ?_); rintro e w' ⟨rfl, ⟨nd, rfl⟩⟩) | ((with_reducible refine gate_callee (f := 58) rfl ?_); refine goesL_ (some 119) rfl rfl Try.func58 (by kernel_rfl) rfl #[.string a0, .int .i64 t156, .bool a3] rfl (by (try simp only [List.map_toArray, List.map_cons, List.map_nil]); first | done | rfl | (simp only [List.length_drop, List.length_take]; rfl)) ?_; (with_reducible refine (spec_PlainEnd.calls kj38 a0 t156 a3 t162 _ A70.out).mono ?_); rintro e w' ⟨rfl, ⟨nd, rfl⟩⟩; refine ⟨_, rfl, ?_⟩; obtain ⟨Ao76, co76, eo76⟩ := Kd.R_slice HO_12.out; subst eo76; obtain ⟨Ao77, co77, eo77⟩ := Kd.R_slice HO_13.out; subst eo77))
                                                  (try (rw [drewN_self wc]; generalize hq_ : World.drewN wc _ = wc; have n0_ : Aside0 (Kd.R k58 58 wc w.heap.size (fun k_ => some k_ ≠ (.slice Ao77 x13_26.length co77 : Value).ownBlock) (.slice Ao76 x12_1.length co76) x12_1) := ⟨by rw [← hq_]; exact (by (with_reducible repeat (first | apply Kd.R_alloc | apply Kd.R_drewN | apply Kd.R_drew)); exact HO_12.out)⟩; have n1_ : Aside0 (Kd.R k58 58 wc w.heap.size (fun k_ => some k_ ≠ (.slice Ao76 x12_1.length co76 : Value).ownBlock) (.slice Ao77 x13_26.length co77) x13_26) := ⟨by rw [← hq_]; exact (by (with_reducible repeat (first | apply Kd.R_alloc | apply Kd.R_drewN | apply Kd.R_drew)); exact HO_13.out)⟩; have n2_ : Aside0 (Below w.heap.size w wc) := ⟨by rw [← hq_]; exact (by repeat (first | (with_reducible first | exact HB.out | apply below_alloc | apply pw_below_drewN | apply below_drew1) | exact HB.out))⟩; clear HO_12 HO_13 HB hq_; have HO_12 := n0_; have HO_13 := n1_; have HB := n2_; clear n0_ n1_ n2_))
                                                  have n0_ := Aside0.mk (Kd.R_drew HO_12.out)
                                                  have n1_ := Aside0.mk (Kd.R_drew HO_13.out)
                                                  have n2_ := Aside0.mk (below_drew1 HB.out)
                                                  clear HO_12
                                                  clear HO_13
                                                  clear HB
                                                  have HO_12 := n0_
                                                  have HO_13 := n1_
                                                  have HB := n2_
                                                  clear n0_ n1_ n2_
                                                  refine start_ (n := 11) (S := fun w' => True) (ds := []) #[false, false, false, false, false, false, false, false, false, false, false] (by kernel_rfl) rfl rfl trivial (fun hHeld => ?_); refine with_tabW spec_PlainAt.tab17 spec_PlainAt.bits17 (fun HT_ HW_ => ?_)
                                                  generalize wc.drew = w78 at HO_12 HO_13 HB hHeld ⊢
                                                  refine pure_ (i := 0) (N := some 120) (v := ?_) (a' := ?_) #[true, false, false, false, false, false, false, false, false, false, false] rfl rfl (any_of HT_.out (by kernel_rfl)) (fun _ _ _ h => h) (Or.inl ⟨by rfl, ?_⟩) ?_ ?_
                                                  rotate_left
                                                  · intro w'
                                                    go_simp
                                                    with_reducible rfl
                                                  rotate_left
                                                  · simp only [Act.put, List.setIfInBounds_toArray, List.set_cons_zero, List.set_cons_succ, i64_w, i32_w]
                                                    rfl
                                                  refine pure_ (i := 1) (N := some 121) (v := ?_) (a' := ?_) #[true, true, false, false, false, false, false, false, false, false, false] rfl rfl (any_of HT_.out (by kernel_rfl)) (fun _ _ _ h => h) (Or.inl ⟨by rfl, ?_⟩) ?_ ?_
                                                  rotate_left
                                                  · intro w'
                                                    go_simp
                                                    with_reducible rfl
                                                  rotate_left
                                                  · simp only [Act.put, List.setIfInBounds_toArray, List.set_cons_zero, List.set_cons_succ, i64_w, i32_w]
                                                    rfl
                                                  refine pure_ (i := 3) (N := some 123) (v := ?_) (a' := ?_) #[true, true, false, true, false, false, false, false, false, false, false] rfl rfl (any_of HT_.out (by kernel_rfl)) (fun _ _ _ h => h) (Or.inl ⟨by rfl, ?_⟩) ?_ ?_
                                                  rotate_left
                                                  · intro w'
                                                    go_simp
                                                    with_reducible rfl
                                                  rotate_left
                                                  · simp only [Act.put, List.setIfInBounds_toArray, List.set_cons_zero, List.set_cons_succ, i64_w, i32_w]
                                                    rfl
                                                  refine pure_ (i := 4) (N := some 124) (v := ?_) (a' := ?_) #[true, true, false, true, true, false, false, false, false, false, false] rfl rfl (any_of HT_.out (by kernel_rfl)) (fun _ _ _ h => h) (Or.inl ⟨by rfl, ?_⟩) ?_ ?_
                                                  rotate_left
                                                  · intro w'
                                                    go_simp
                                                    with_reducible rfl
                                                  rotate_left
                                                  · simp only [Act.put, List.setIfInBounds_toArray, List.set_cons_zero, List.set_cons_succ, i64_w, i32_w]
                                                    rfl
                                                  refine pure_ (i := 5) (N := some 125) (v := ?_) (a' := ?_) #[true, true, false, true, true, true, false, false, false, false, false] rfl rfl (any_of HT_.out (by kernel_rfl)) (fun _ _ _ h => h) (Or.inl ⟨by rfl, ?_⟩) ?_ ?_
                                                  rotate_left
                                                  · intro w'
                                                    go_simp
                                                    with_reducible rfl
                                                  rotate_left
                                                  · simp only [Act.put, List.setIfInBounds_toArray, List.set_cons_zero, List.set_cons_succ, i64_w, i32_w]
                                                    rfl
                                                  refine pure_ (i := 6) (N := some 126) (v := ?_) (a' := ?_) #[true, true, false, true, true, true, true, false, false, false, false] rfl rfl (any_of HT_.out (by kernel_rfl)) (fun _ _ _ h => h) (Or.inl ⟨by rfl, ?_⟩) ?_ ?_
                                                  rotate_left
                                                  · intro w'
                                                    go_simp
                                                    with_reducible rfl
                                                  rotate_left
                                                  · simp only [Act.put, List.setIfInBounds_toArray, List.set_cons_zero, List.set_cons_succ, i64_w, i32_w]
                                                    rfl
                                                  refine pure_ (i := 7) (N := some 127) (v := ?_) (a' := ?_) #[true, true, false, true, true, true, true, true, false, false, false] rfl rfl (any_of HT_.out (by kernel_rfl)) (fun _ _ _ h => h) (Or.inl ⟨by rfl, ?_⟩) ?_ ?_
                                                  rotate_left
                                                  · intro w'
                                                    go_simp
                                                    with_reducible rfl
                                                  rotate_left
                                                  · simp only [Act.put, List.setIfInBounds_toArray, List.set_cons_zero, List.set_cons_succ, i64_w, i32_w]
                                                    rfl
                                                  refine join_ (σ := Value × Value) 2 #[true, true, true, true, true, true, true, true, true, false, false] (fun s_ => [(122, s_.1), (128, s_.2)]) (fun s_ w' => (Kd.R k58 58 w' w.heap.size (fun k_ => some k_ ≠ (s_.2 : Value).ownBlock ∧ some k_ ≠ (.slice Ao77 x13_26.length co77 : Value).ownBlock) s_.1 y163) ∧ (Kd.R k58 58 w' w.heap.size (fun k_ => some k_ ≠ (s_.1 : Value).ownBlock ∧ some k_ ≠ (.slice Ao77 x13_26.length co77 : Value).ownBlock) s_.2 y166) ∧ (Kd.R k58 58 w' w.heap.size (fun k_ => some k_ ≠ (s_.1 : Value).ownBlock ∧ some k_ ≠ (s_.2 : Value).ownBlock) (.slice Ao77 x13_26.length co77) x13_26) ∧ (Below w.heap.size w w')) ?_ ?_
                                                  rotate_left
                                                  · intro hCont
                                                    refine two_ (i := 2) (j := 8) (Ni := some 122) (Nj := some 128) #[true, true, true, true, true, true, true, true, false, false, false] #[true, true, false, true, true, true, true, true, true, false, false] rfl rfl rfl rfl (two_of HT_.out (by kernel_rfl)) (by decide) (by decide) (fun K hK => ?_) (fun K hK => ?_)
                                                    · skip
                                                      refine Kd.R_append_rows_step k58 (w0 := w) w.heap.size (by rfl) (.tmp 120) (.tmp 121) 56 58 (.agg #[(.string ⟨#[]⟩), (.bool false)]) 24 rfl Try.underlying56 info58 rfl (by decide) (by omega) (.slice Ao76 x12_1.length co76) x12_1 x13_26 _ _ _ (fun k_ => some k_ ≠ (.slice Ao77 x13_26.length co77 : Value).ownBlock) (fun _ => False) rfl rfl ?aO ?aR (fun _ _ h => h) (fun _ h => h.elim) ?aF ?aB ?aS ?aL ?_
                                                      (case aR => repeat (first | exact (Kd.R_reads' HO_13.out).2.2 | (with_reducible refine Kd.C_alloc ?_ _) | (with_reducible refine Kd.C_drewN ?_ _) | (with_reducible refine Kd.C_drew ?_)))
                                                      (case aB => exact (by repeat (first | (with_reducible first | exact HB.out | apply below_alloc | apply pw_below_drewN | apply below_drew1) | exact HB.out)))
                                                      (case aF => exact (fun k_ hk => Kd.fresh' (Kd.R_lt (by (with_reducible repeat (first | apply Kd.R_alloc | apply Kd.R_drewN | apply Kd.R_drew)); exact HO_13.out)) k_ hk))
                                                      (case aO => exact (by (with_reducible repeat (first | apply Kd.R_alloc | apply Kd.R_drewN | apply Kd.R_drew)); exact HO_12.out))
                                                      (case aS => exact (below_size (by repeat (first | (with_reducible first | exact HB.out | apply below_alloc | apply pw_below_drewN | apply below_drew1) | exact HB.out))))
                                                      (case aL => have := LMc71.out; omega)
                                                      intro v164 w79 ho hb hg hat
                                                      rw [← Ny163.out] at ho
                                                      have n0_ := Aside0.mk (Kd.R_after (ok := (fun _ => True)) (by (with_reducible repeat (first | apply Kd.R_alloc | apply Kd.R_drewN | apply Kd.R_drew)); exact Kd.R_mono HO_13.out (fun _ hk => ⟨trivial, hk⟩)) hg hat)
                                                      have n1_ := Aside0.mk (hb)
                                                      have n2_ := Aside0.mk (ho)
                                                      clear HO_13
                                                      clear HB
                                                      clear HO_12
                                                      have HO_13 := n0_
                                                      have HB := n1_
                                                      have HO165 := n2_
                                                      clear n0_ n1_ n2_
                                                      clear ho hb hg hat
                                                      refine hK.out _ _ trivial (fun hHeld => ?_)
                                                      clear hK K
                                                      refine norm_ (a' := ?_) ?_ ?_
                                                      rotate_left
                                                      · show Act.put _ (some 122) _ = _
                                                        simp only [Act.put, List.setIfInBounds_toArray, List.set_cons_zero, List.set_cons_succ, i64_w, i32_w]
                                                        rfl
                                                      refine one_ (i := 8) (N := some 128) #[true, true, true, true, true, true, true, true, true, false, false] rfl rfl (one_of HT_.out (by kernel_rfl)) (by decide) (fun K hK => ?_)
                                                      refine Kd.R_lit_step k58 _ 58 ?hg (N := 128) ?hd (xs := ([(⟨a0.extract (t156 : Int).toNat (t162 : Int).toNat, false⟩ : S58)] : List (S58))) (inner := [.string (a0.extract (t156 : Int).toNat (t162 : Int).toNat), .bool false]) (ok := fun _ => True) (okp := fun _ => True) ?hr ?hp (fun _ hk => hk) trivial (Below.refl _ _) (Nat.le_refl _) (by simp) ?_; (case hd => rfl); (case hg => rfl); (case hr => first | (go_simp; done) | (go_simp; rfl)); (case hp => exact (Reps.c2 (show Kd.M k58 _ _ _ (⟨a0.extract (t156 : Int).toNat (t162 : Int).toNat, false⟩ : S58) [.string (a0.extract (t156 : Int).toNat (t162 : Int).toNat), .bool false] from (k58_mkM _ _ _ (⟨a0.extract (t156 : Int).toNat (t162 : Int).toNat, false⟩ : S58) )) (Reps.none _ _)))
                                                      intro v167 w80 ho81 hb hg_ hnew_
                                                      clear hg_ hnew_
                                                      (first | rw [← Ny166.out] at ho81 | (simp only [Int.reduceToNat] at ho81; rw [← Ny166.out] at ho81))
                                                      have n0_ := Aside0.mk (Kd.R_elder' (by (with_reducible repeat (first | apply Kd.R_alloc | apply Kd.R_drewN | apply Kd.R_drew)); exact HO_13.out) (Kd.R_base ho81) hb)
                                                      have n1_ := Aside0.mk (Kd.R_elder' (by (with_reducible repeat (first | apply Kd.R_alloc | apply Kd.R_drewN | apply Kd.R_drew)); exact HO165.out) (Kd.R_base ho81) hb)
                                                      have n2_ := Aside0.mk (Kd.R_lower (Kd.R_new' (Kd.R_new' ho81 (Kd.R_lt (by (with_reducible repeat (first | apply Kd.R_alloc | apply Kd.R_drewN | apply Kd.R_drew)); exact HO_13.out))) (Kd.R_lt (by (with_reducible repeat (first | apply Kd.R_alloc | apply Kd.R_drewN | apply Kd.R_drew)); exact HO165.out))) (below_size (by repeat (first | (with_reducible first | exact HB.out | apply below_alloc | apply pw_below_drewN | apply below_drew1) | exact HB.out))))
                                                      have n3_ := Aside0.mk (below_step (by repeat (first | (with_reducible first | exact HB.out | apply below_alloc | apply pw_below_drewN | apply below_drew1) | exact HB.out)) hb)
                                                      clear HO_13
                                                      clear HO165
                                                      clear HB
                                                      have HO_13 := n0_
                                                      have HO165 := n1_
                                                      have HO168 := n2_
                                                      have HB := n3_
                                                      clear n0_ n1_ n2_ n3_
                                                      clear hb ho81
                                                      refine hK.out _ _ trivial (fun hHeld => ?_)
                                                      clear hK K
                                                      refine norm_ (a' := ?_) ?_ ?_
                                                      rotate_left
                                                      · show Act.put _ (some 128) _ = _
                                                        simp only [Act.put, List.setIfInBounds_toArray, List.set_cons_zero, List.set_cons_succ, i64_w, i32_w]
                                                        rfl
                                                      exact norm_ (by simp only [putAll, Act.put, List.setIfInBounds_toArray, List.set_cons_zero, List.set_cons_succ]) (hCont (v164, v167) _ ⟨(by (with_reducible repeat (first | apply Kd.R_alloc | apply Kd.R_drewN | apply Kd.R_drew)); exact Kd.R_mono HO165.out (fun _ hk => ⟨hk.2, hk.1⟩)), (by (with_reducible repeat (first | apply Kd.R_alloc | apply Kd.R_drewN | apply Kd.R_drew)); exact Kd.R_mono HO168.out (fun _ hk => ⟨hk.2, hk.1.2⟩)), (by (with_reducible repeat (first | apply Kd.R_alloc | apply Kd.R_drewN | apply Kd.R_drew)); exact Kd.R_mono HO_13.out (fun _ hk => ⟨hk.1.2, hk.2⟩)), (by repeat (first | (with_reducible first | exact HB.out | apply below_alloc | apply pw_below_drewN | apply below_drew1) | exact HB.out))⟩)
                                                    · skip
                                                      refine Kd.R_lit_step k58 _ 58 ?hg (N := 128) ?hd (xs := ([(⟨a0.extract (t156 : Int).toNat (t162 : Int).toNat, false⟩ : S58)] : List (S58))) (inner := [.string (a0.extract (t156 : Int).toNat (t162 : Int).toNat), .bool false]) (ok := fun _ => True) (okp := fun _ => True) ?hr ?hp (fun _ hk => hk) trivial (Below.refl _ _) (Nat.le_refl _) (by simp) ?_; (case hd => rfl); (case hg => rfl); (case hr => first | (go_simp; done) | (go_simp; rfl)); (case hp => exact (Reps.c2 (show Kd.M k58 _ _ _ (⟨a0.extract (t156 : Int).toNat (t162 : Int).toNat, false⟩ : S58) [.string (a0.extract (t156 : Int).toNat (t162 : Int).toNat), .bool false] from (k58_mkM _ _ _ (⟨a0.extract (t156 : Int).toNat (t162 : Int).toNat, false⟩ : S58) )) (Reps.none _ _)))
                                                      intro v167 w79 ho80 hb hg_ hnew_
                                                      clear hg_ hnew_
                                                      (first | rw [← Ny166.out] at ho80 | (simp only [Int.reduceToNat] at ho80; rw [← Ny166.out] at ho80))
                                                      have n0_ := Aside0.mk (Kd.R_elder' (by (with_reducible repeat (first | apply Kd.R_alloc | apply Kd.R_drewN | apply Kd.R_drew)); exact HO_12.out) (Kd.R_base ho80) hb)
                                                      have n1_ := Aside0.mk (Kd.R_elder' (by (with_reducible repeat (first | apply Kd.R_alloc | apply Kd.R_drewN | apply Kd.R_drew)); exact HO_13.out) (Kd.R_base ho80) hb)
                                                      have n2_ := Aside0.mk (Kd.R_lower (Kd.R_new' (Kd.R_new' ho80 (Kd.R_lt (by (with_reducible repeat (first | apply Kd.R_alloc | apply Kd.R_drewN | apply Kd.R_drew)); exact HO_12.out))) (Kd.R_lt (by (with_reducible repeat (first | apply Kd.R_alloc | apply Kd.R_drewN | apply Kd.R_drew)); exact HO_13.out))) (below_size (by repeat (first | (with_reducible first | exact HB.out | apply below_alloc | apply pw_below_drewN | apply below_drew1) | exact HB.out))))
                                                      have n3_ := Aside0.mk (below_step (by repeat (first | (with_reducible first | exact HB.out | apply below_alloc | apply pw_below_drewN | apply below_drew1) | exact HB.out)) hb)
                                                      clear HO_12
                                                      clear HO_13
                                                      clear HB
                                                      have HO_12 := n0_
                                                      have HO_13 := n1_
                                                      have HO168 := n2_
                                                      have HB := n3_
                                                      clear n0_ n1_ n2_ n3_
                                                      clear hb ho80
                                                      refine hK.out _ _ trivial (fun hHeld => ?_)
                                                      clear hK K
                                                      refine norm_ (a' := ?_) ?_ ?_
                                                      rotate_left
                                                      · show Act.put _ (some 128) _ = _
                                                        simp only [Act.put, List.setIfInBounds_toArray, List.set_cons_zero, List.set_cons_succ, i64_w, i32_w]
                                                        rfl
                                                      refine one_ (i := 2) (N := some 122) #[true, true, true, true, true, true, true, true, true, false, false] rfl rfl (one_of HT_.out (by kernel_rfl)) (by decide) (fun K hK => ?_)
                                                      refine Kd.R_append_rows_step k58 (w0 := w) w.heap.size (by rfl) (.tmp 120) (.tmp 121) 56 58 (.agg #[(.string ⟨#[]⟩), (.bool false)]) 24 rfl Try.underlying56 info58 rfl (by decide) (by omega) (.slice Ao76 x12_1.length co76) x12_1 x13_26 _ _ _ (fun k_ => some k_ ≠ (.slice Ao77 x13_26.length co77 : Value).ownBlock ∧ some k_ ≠ (v167 : Value).ownBlock) (fun _ => False) rfl rfl ?aO ?aR (fun _ _ h => h) (fun _ h => h.elim) ?aF ?aB ?aS ?aL ?_
                                                      (case aR => repeat (first | exact (Kd.R_reads' HO_13.out).2.2 | (with_reducible refine Kd.C_alloc ?_ _) | (with_reducible refine Kd.C_drewN ?_ _) | (with_reducible refine Kd.C_drew ?_)))
                                                      (case aB => exact (by repeat (first | (with_reducible first | exact HB.out | apply below_alloc | apply pw_below_drewN | apply below_drew1) | exact HB.out)))
                                                      (case aF => exact (fun k_ hk => ⟨Kd.fresh' (Kd.R_lt (by (with_reducible repeat (first | apply Kd.R_alloc | apply Kd.R_drewN | apply Kd.R_drew)); exact HO_13.out)) k_ hk, Kd.fresh' (Kd.R_lt (by (with_reducible repeat (first | apply Kd.R_alloc | apply Kd.R_drewN | apply Kd.R_drew)); exact HO168.out)) k_ hk⟩))
                                                      (case aO => exact (by (with_reducible repeat (first | apply Kd.R_alloc | apply Kd.R_drewN | apply Kd.R_drew)); exact HO_12.out))
                                                      (case aS => exact (below_size (by repeat (first | (with_reducible first | exact HB.out | apply below_alloc | apply pw_below_drewN | apply below_drew1) | exact HB.out))))
                                                      (case aL => have := LMc71.out; omega)
                                                      intro v164 w81 ho hb hg hat
                                                      rw [← Ny163.out] at ho
                                                      have n0_ := Aside0.mk (Kd.R_after (ok := (fun k_ => some k_ ≠ (v167 : Value).ownBlock)) (by (with_reducible repeat (first | apply Kd.R_alloc | apply Kd.R_drewN | apply Kd.R_drew)); exact Kd.R_mono HO_13.out (fun _ hk => ⟨hk.2, hk.1⟩)) hg hat)
                                                      have n1_ := Aside0.mk (Kd.R_after (ok := (fun k_ => some k_ ≠ (.slice Ao77 x13_26.length co77 : Value).ownBlock)) (by (with_reducible repeat (first | apply Kd.R_alloc | apply Kd.R_drewN | apply Kd.R_drew)); exact Kd.R_mono HO168.out (fun _ hk => ⟨hk.2, hk.1.2⟩)) hg hat)
                                                      have n2_ := Aside0.mk (hb)
                                                      have n3_ := Aside0.mk (ho)
                                                      clear HO_13
                                                      clear HO168
                                                      clear HB
                                                      clear HO_12
                                                      have HO_13 := n0_
                                                      have HO168 := n1_
                                                      have HB := n2_
                                                      have HO165 := n3_
                                                      clear n0_ n1_ n2_ n3_
                                                      clear ho hb hg hat
                                                      refine hK.out _ _ trivial (fun hHeld => ?_)
                                                      clear hK K
                                                      refine norm_ (a' := ?_) ?_ ?_
                                                      rotate_left
                                                      · show Act.put _ (some 122) _ = _
                                                        simp only [Act.put, List.setIfInBounds_toArray, List.set_cons_zero, List.set_cons_succ, i64_w, i32_w]
                                                        rfl
                                                      exact norm_ (by simp only [putAll, Act.put, List.setIfInBounds_toArray, List.set_cons_zero, List.set_cons_succ]) (hCont (v164, v167) _ ⟨(by (with_reducible repeat (first | apply Kd.R_alloc | apply Kd.R_drewN | apply Kd.R_drew)); exact Kd.R_mono HO165.out (fun _ hk => ⟨hk.2, hk.1⟩)), (by (with_reducible repeat (first | apply Kd.R_alloc | apply Kd.R_drewN | apply Kd.R_drew)); exact Kd.R_mono HO168.out (fun _ hk => ⟨hk.2, hk.1⟩)), (by (with_reducible repeat (first | apply Kd.R_alloc | apply Kd.R_drewN | apply Kd.R_drew)); exact Kd.R_mono HO_13.out (fun _ hk => ⟨hk.2, hk.1⟩)), (by repeat (first | (with_reducible first | exact HB.out | apply below_alloc | apply pw_below_drewN | apply below_drew1) | exact HB.out))⟩)
                                                  rintro ⟨v164, v167⟩ w82 ⟨h0_, h1_, h2_, h3_⟩
                                                  have n0_ : Aside0 (Kd.R k58 58 w82 w.heap.size (fun k_ => some k_ ≠ (v167 : Value).ownBlock ∧ some k_ ≠ (.slice Ao77 x13_26.length co77 : Value).ownBlock) v164 y163) := ⟨h0_⟩
                                                  have n1_ : Aside0 (Kd.R k58 58 w82 w.heap.size (fun k_ => some k_ ≠ (v164 : Value).ownBlock ∧ some k_ ≠ (.slice Ao77 x13_26.length co77 : Value).ownBlock) v167 y166) := ⟨h1_⟩
                                                  have n2_ : Aside0 (Kd.R k58 58 w82 w.heap.size (fun k_ => some k_ ≠ (v164 : Value).ownBlock ∧ some k_ ≠ (v167 : Value).ownBlock) (.slice Ao77 x13_26.length co77) x13_26) := ⟨h2_⟩
                                                  have n3_ : Aside0 (Below w.heap.size w w82) := ⟨h3_⟩
                                                  clear HO_12
                                                  clear HO_13
                                                  clear HB
                                                  clear h0_ h1_ h2_ h3_
                                                  have HO165 := n0_
                                                  have HO168 := n1_
                                                  have HO_13 := n2_
                                                  have HB := n3_
                                                  clear n0_ n1_ n2_ n3_
                                                  have hHeld := trivial
                                                  obtain ⟨Ao84, co84, eo84⟩ := Kd.R_slice HO168.out
                                                  (first | subst eo84 | (injection eo84 with f1_ f2_ f3_; have f4_ := f1_.symm; have f5_ := f3_.symm; clear f1_ f2_ f3_; subst f4_; subst f5_))
                                                  refine norm_ (a' := ?_) ?_ ?_
                                                  rotate_left
                                                  · simp only [putAll, Act.put, List.setIfInBounds_toArray, List.set_cons_zero, List.set_cons_succ]
                                                    rfl
                                                  refine one_ (i := 9) (N := some 129) #[true, true, true, true, true, true, true, true, true, true, false] rfl rfl (one_of HT_.out (by kernel_rfl)) (by decide) (fun K hK => ?_)
                                                  refine Kd.R_append_rows_step k58 (w0 := w) w.heap.size (by rfl) (.tmp 122) (.tmp 128) 56 58 (.agg #[(.string ⟨#[]⟩), (.bool false)]) 24 rfl Try.underlying56 info58 rfl (by decide) (by omega) v164 y163 y166 _ _ _ (fun k_ => some k_ ≠ (.slice Ao77 x13_26.length co77 : Value).ownBlock ∧ some k_ ≠ (.slice Ao84 y166.length co84 : Value).ownBlock) (fun _ => False) rfl rfl ?aO ?aR (fun _ _ h => h) (fun _ h => h.elim) ?aF ?aB ?aS ?aL ?_
                                                  (case aR => repeat (first | exact (Kd.R_reads' HO168.out).2.2 | (with_reducible refine Kd.C_alloc ?_ _) | (with_reducible refine Kd.C_drewN ?_ _) | (with_reducible refine Kd.C_drew ?_)))
                                                  (case aB => exact (by repeat (first | (with_reducible first | exact HB.out | apply below_alloc | apply pw_below_drewN | apply below_drew1) | exact HB.out)))
                                                  (case aF => exact (fun k_ hk => ⟨Kd.fresh' (Kd.R_lt (by (with_reducible repeat (first | apply Kd.R_alloc | apply Kd.R_drewN | apply Kd.R_drew)); exact HO_13.out)) k_ hk, Kd.fresh' (Kd.R_lt (by (with_reducible repeat (first | apply Kd.R_alloc | apply Kd.R_drewN | apply Kd.R_drew)); exact HO168.out)) k_ hk⟩))
                                                  (case aO => exact (by (with_reducible repeat (first | apply Kd.R_alloc | apply Kd.R_drewN | apply Kd.R_drew)); exact Kd.R_mono HO165.out (fun _ hk => ⟨hk.2, hk.1⟩)))
                                                  (case aS => exact (below_size (by repeat (first | (with_reducible first | exact HB.out | apply below_alloc | apply pw_below_drewN | apply below_drew1) | exact HB.out))))
                                                  (case aL => have := LMc75.out; omega)
                                                  intro v170 w83 ho hb hg hat
                                                  rw [← Ny169.out] at ho
                                                  have n0_ := Aside0.mk (Kd.R_after (ok := (fun k_ => some k_ ≠ (.slice Ao84 y166.length co84 : Value).ownBlock)) (by (with_reducible repeat (first | apply Kd.R_alloc | apply Kd.R_drewN | apply Kd.R_drew)); exact Kd.R_mono HO_13.out (fun _ hk => ⟨hk.2, hk.1⟩)) hg hat)
                                                  have n1_ := Aside0.mk (Kd.R_after (ok := (fun k_ => some k_ ≠ (.slice Ao77 x13_26.length co77 : Value).ownBlock)) (by (with_reducible repeat (first | apply Kd.R_alloc | apply Kd.R_drewN | apply Kd.R_drew)); exact Kd.R_mono HO168.out (fun _ hk => ⟨hk.2, hk.1⟩)) hg hat)
                                                  have n2_ := Aside0.mk (hb)
                                                  have n3_ := Aside0.mk (ho)
                                                  clear HO_13
                                                  clear HO168
                                                  clear HB
                                                  clear HO165
                                                  have HO_13 := n0_
                                                  have HO168 := n1_
                                                  have HB := n2_
                                                  have HO171 := n3_
                                                  clear n0_ n1_ n2_ n3_
                                                  clear ho hb hg hat
                                                  refine hK.out _ _ trivial (fun hHeld => ?_)
                                                  clear hK K
                                                  refine norm_ (a' := ?_) ?_ ?_
                                                  rotate_left
                                                  · show Act.put _ (some 129) _ = _
                                                    simp only [Act.put, List.setIfInBounds_toArray, List.set_cons_zero, List.set_cons_succ, i64_w, i32_w]
                                                    rfl
                                                  refine pure_ (i := 10) (N := some 12) (v := ?_) (a' := ?_) #[true, true, true, true, true, true, true, true, true, true, true] rfl rfl (any_of HT_.out (by kernel_rfl)) (fun _ _ _ h => h) (Or.inl ⟨by rfl, ?_⟩) ?_ ?_
                                                  rotate_left
                                                  · intro w'
                                                    go_simp
                                                    with_reducible rfl
                                                  rotate_left
                                                  · simp only [Act.put, List.setIfInBounds_toArray, List.set_cons_zero, List.set_cons_succ, i64_w, i32_w]
                                                    rfl
                                                  refine done_ (done_of HT_.out (by kernel_rfl)) ?_
                                                  try go_wp2
                                                  go_roundg kj38
                                                  case measure => have := HK1.out; have := HJ15.out; have := HJ26.out; have := HJ38.out; omega
                                                  case rel => exact ⟨(t162), (y169), (by first | rfl | (simp; done) | (simp [*]; done)), H', ⟨by have := HK1.out; have := HJ15.out; have := HJ26.out; have := HJ38.out; omega⟩, ⟨by (with_reducible repeat (first | apply Kd.R_alloc | apply Kd.R_drewN | apply Kd.R_drew)); exact Kd.R_mono HO171.out (fun _ hk => trivial)⟩, ⟨by repeat (first | (with_reducible first | exact HB.out | apply below_alloc | apply pw_below_drewN | apply below_drew1) | exact HB.out)⟩⟩
                                                · rw [if_neg c75] at H
                                                  exact absurd H (by simp)
                                              · rw [if_neg c74] at H
                                                exact absurd H (by simp)
                                            · rw [if_neg c73] at H
                                              exact absurd H (by simp)
                                          · rw [if_neg c71] at H
                                            exact absurd H (by simp)
                                  · rw [if_neg c54] at H
                                    exact absurd H (by simp)
                                · rw [if_neg c53] at H
                                  exact absurd H (by simp)
        · rw [if_neg c11] at H
          exact absurd H (by simp)
      · rw [if_neg c10] at H
        exact absurd H (by simp)
    · rw [if_neg c9] at H
      exact absurd H (by simp)
  · replace c7 := Bool.eq_false_iff.mpr c7
    subst c7
    have H1 : (some ((⟨#[]⟩ : ByteArray), 0, false)) = some (r1, r2, r3) := by rw [if_neg (show ¬ (false = true) by decide)] at H; exact H
    clear H
    have H := H1
    clear H1
    simp only [Option.some.injEq, Prod.mk.injEq] at H
    obtain ⟨rfl, rfl, rfl⟩ := H
    go_enter Try.func13, Try.ntmps13
    go_wp2_with (first | ((with_reducible refine gate_callee (f := 56) rfl ?_); refine goesL_ (some 17) rfl rfl Try.func56 (by kernel_rfl) rfl #[.string a0, .int .i64 a1] rfl (by (try simp only [List.map_toArray, List.map_cons, List.map_nil]); first | done | rfl | (simp only [List.length_drop, List.length_take]; rfl)) ?_; (with_reducible refine (spec_l01P.calls a0 a1 t133 _ A5.out).mono ?_); rintro e w' ⟨rfl, ⟨nd, rfl⟩⟩; refine ⟨_, rfl, ?_⟩) | ((with_reducible refine gate_callee (f := 57) rfl ?_); refine goesL_ (some 21) rfl rfl Try.func57 (by kernel_rfl) rfl #[.string a0, .int .i64 t133, .bool a3] rfl (by (try simp only [List.map_toArray, List.map_cons, List.map_nil]); first | done | rfl | (simp only [List.length_drop, List.length_take]; rfl)) ?_; (with_reducible refine (spec_PlainFirst.calls k a0 t133 a3 false _ A6.out).mono ?_); rintro e w85 ⟨rfl, hb⟩; refine ⟨_, rfl, ?_⟩; have n0_ := Aside0.mk (below_step (by repeat (first | (with_reducible first | exact HB.out | apply below_alloc | apply pw_below_drewN | apply below_drew1) | exact HB.out)) hb); clear HB; have HB := n0_; clear n0_; (try clear hb); (try clear hb2); (try clear hk); (try clear hi)))
    go_ret3
    exact ⟨by first | rfl | (simp [errW_none, errW_some] <;> rfl) | (simp [*, errW_none, errW_some] <;> rfl), by repeat (first | (with_reducible first | exact HB.out | apply below_alloc | apply pw_below_drewN | apply below_drew1) | exact HB.out)⟩

end Go.Proofs.Ytglmjmkbahfgaaa.PFnExactPlainAt
