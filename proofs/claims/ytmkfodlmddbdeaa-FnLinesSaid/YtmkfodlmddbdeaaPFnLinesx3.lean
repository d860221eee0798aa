-- Written by a program of this session, out of the translation.
import Derived.Test.YtmkfodlmddbdeaaPFnLinesx0
import Derived.Test.YtmkfodlmddbdeaaPFnLinesx1
import Derived.Test.YtmkfodlmddbdeaaPFnLinesx2
namespace Go.Proofs.Ytmkfodlmddbdeaa.PFnLines
open Go.RowKit Go.Proofs.YtmkfodlmddbdeaaW.PrintWords Go.Proofs.YtmkfodlmddbdeaaW.PrintLast Go.Proofs.YtmkfodlmddbdeaaW.PrintMore
attribute [local go_sem] max2_int min2_int max_two min_two max_three min_three max_four min_four   -- for this text's walks alone
set_option linter.unusedVariables false
set_option linter.unusedSimpArgs false

/-! #### spec_l11Draw (its text): function 31 -/
def spec_l11Value0.g (draw : List Int → Int → Int → Int → Int → Option (ByteArray × Int × Int)) (k : Nat) (s0_0 : List Int) (s0_1 : Int) (s0_2 : Int) (a1 : Int) (a2 : Int) : Option (ByteArray × Int × Int) := (spec_l01Below.f s0_0 s0_1 s0_2 6).bind fun bt229 => (if bt229.1 < 2 then ((spec_l11Leaf.f k s0_0 bt229.2.1 bt229.2.2).bind fun bt232 => (if 1 + bt232.1.size ≤ 9223372036854775807 then (if ((⟨#[32]⟩ : ByteArray) ++ bt232.1).size + 1 ≤ 9223372036854775807 then (some (((⟨#[32]⟩ : ByteArray) ++ bt232.1) ++ (⟨#[10]⟩ : ByteArray), bt232.2.1, bt232.2.2)) else (none)) else (none))) else (if bt229.1 < 4 then ((spec_l01Below.f s0_0 bt229.2.1 bt229.2.2 2).bind fun bt235 => ((spec_l01Of.f s0_0 bt235.2.1 bt235.2.2 (([(⟨#[10]⟩ : ByteArray), (⟨#[10]⟩ : ByteArray), (⟨#[32, 38, 98, 10]⟩ : ByteArray), (⟨#[32, 35, 32, 114, 10, 10]⟩ : ByteArray)] : List ByteArray))).bind fun bt241 => ((spec_l11Pad.f k (wrap64 ((wrap64 (a1 + 1)) + bt235.1))).bind fun t244 => (if bt241.1.size + t244.size ≤ 9223372036854775807 then ((draw s0_0 bt241.2.1 bt241.2.2 (wrap64 ((wrap64 (a1 + 1)) + bt235.1)) (wrap64 (a2 - 1))).bind fun bt245 => (if (bt241.1 ++ t244).size + bt245.1.size ≤ 9223372036854775807 then (some ((bt241.1 ++ t244) ++ bt245.1, bt245.2.1, bt245.2.2)) else (none))) else (none))))) else (if bt229.1 = 4 then ((spec_l11Pad.f k a1).bind fun t248 => (if 1 + t248.size ≤ 9223372036854775807 then (if ((⟨#[10]⟩ : ByteArray) ++ t248).size + 4 ≤ 9223372036854775807 then ((spec_l11Pad.f k a1).bind fun t249 => (if (((⟨#[10]⟩ : ByteArray) ++ t248) ++ (⟨#[45, 32, 120, 10]⟩ : ByteArray)).size + t249.size ≤ 9223372036854775807 then (if ((((⟨#[10]⟩ : ByteArray) ++ t248) ++ (⟨#[45, 32, 120, 10]⟩ : ByteArray)) ++ t249).size + 2 ≤ 9223372036854775807 then ((spec_l11Leaf.f k s0_0 bt229.2.1 bt229.2.2).bind fun bt250 => (if (((((⟨#[10]⟩ : ByteArray) ++ t248) ++ (⟨#[45, 32, 120, 10]⟩ : ByteArray)) ++ t249) ++ (⟨#[45, 32]⟩ : ByteArray)).size + bt250.1.size ≤ 9223372036854775807 then (if ((((((⟨#[10]⟩ : ByteArray) ++ t248) ++ (⟨#[45, 32, 120, 10]⟩ : ByteArray)) ++ t249) ++ (⟨#[45, 32]⟩ : ByteArray)) ++ bt250.1).size + 1 ≤ 9223372036854775807 then (some (((((((⟨#[10]⟩ : ByteArray) ++ t248) ++ (⟨#[45, 32, 120, 10]⟩ : ByteArray)) ++ t249) ++ (⟨#[45, 32]⟩ : ByteArray)) ++ bt250.1) ++ (⟨#[10]⟩ : ByteArray), bt250.2.1, bt250.2.2)) else (none)) else (none))) else (none)) else (none))) else (none)) else (none))) else ((spec_l11Pad.f k a1).bind fun t253 => (if 3 + t253.size ≤ 9223372036854775807 then (if ((⟨#[32, 124, 10]⟩ : ByteArray) ++ t253).size + 4 ≤ 9223372036854775807 then (some (((⟨#[32, 124, 10]⟩ : ByteArray) ++ t253) ++ (⟨#[32, 32, 116, 10]⟩ : ByteArray), bt229.2.1, bt229.2.2)) else (none)) else (none))))))
theorem spec_l11Value0.g_mono (d d' : List Int → Int → Int → Int → Int → Option (ByteArray × Int × Int)) (hd : ∀ y0 y1 y2 y3 y4, LeO (d y0 y1 y2 y3 y4) (d' y0 y1 y2 y3 y4)) (k : Nat) (s0_0 : List Int) (s0_1 : Int) (s0_2 : Int) (a1 : Int) (a2 : Int) : LeO (spec_l11Value0.g d k s0_0 s0_1 s0_2 a1 a2) (spec_l11Value0.g d' (k + 1) s0_0 s0_1 s0_2 a1 a2) := by
  unfold spec_l11Value0.g
  repeat' first
      | (with_reducible exact spec_l11Draw.mono _ _ _ _ _ _)
      | (with_reducible exact spec_l11Leaf.mono _ _ _ _)
      | (with_reducible exact spec_l11Pad.mono _ _)
      | (with_reducible exact LeO.refl _)
      | (with_reducible exact LeO.none _)
      | (with_reducible refine LeO.ite ?_ ?_)
      | (with_reducible refine LeO.bind ?_ (fun _ => ?_))
      | exact hd _ _ _ _ _
      | exact spec_l11Leaf.mono _ _ _ _
      | exact spec_l11Pad.mono _ _
      | exact LeO.none _
      | refine LeO.ite ?_ ?_
      | refine LeO.bind ?_ (fun _ => ?_)
mutual
def spec_l11Draw.j0 : Nat → Int → Int → Int → List Int → Int → Int → Option (ByteArray × Int × Int)
  | 0, _, _, _, _, _, _ => none
  | k + 1, x1, x2, x7, x1000, x1001, x1002 => if x7 < 4 then ((spec_l01Below.f x1000 x1001 x1002 3).bind fun bt257 => (spec_l11Draw.l0 k x1 x2 (⟨#[]⟩ : ByteArray) (wrap64 (1 + bt257.1)) x1000 bt257.2.1 bt257.2.2)) else (if x7 < 7 then ((spec_l01Below.f x1000 x1001 x1002 3).bind fun bt282 => (spec_l11Draw.l1 k x1 x2 (⟨#[]⟩ : ByteArray) (wrap64 (1 + bt282.1)) x1000 bt282.2.1 bt282.2.2)) else (if x7 = 7 then ((spec_l01Of.f x1000 x1001 x1002 (([(⟨#[124]⟩ : ByteArray), (⟨#[62, 45]⟩ : ByteArray), (⟨#[124, 43]⟩ : ByteArray)] : List ByteArray))).bind fun bt310 => (if bt310.1.size + 1 ≤ 9223372036854775807 then ((spec_l11Pad.f k x1).bind fun t313 => (if (bt310.1 ++ (⟨#[10]⟩ : ByteArray)).size + t313.size ≤ 9223372036854775807 then (if ((bt310.1 ++ (⟨#[10]⟩ : ByteArray)) ++ t313).size + 7 ≤ 9223372036854775807 then ((spec_l11Pad.f k x1).bind fun t314 => (if (((bt310.1 ++ (⟨#[10]⟩ : ByteArray)) ++ t313) ++ (⟨#[32, 116, 101, 120, 116, 10, 10]⟩ : ByteArray)).size + t314.size ≤ 9223372036854775807 then (if ((((bt310.1 ++ (⟨#[10]⟩ : ByteArray)) ++ t313) ++ (⟨#[32, 116, 101, 120, 116, 10, 10]⟩ : ByteArray)) ++ t314).size + 6 ≤ 9223372036854775807 then (some (((((bt310.1 ++ (⟨#[10]⟩ : ByteArray)) ++ t313) ++ (⟨#[32, 116, 101, 120, 116, 10, 10]⟩ : ByteArray)) ++ t314) ++ (⟨#[32, 32, 102, 97, 114, 10]⟩ : ByteArray), bt310.2.1, bt310.2.2)) else (none)) else (none))) else (none)) else (none))) else (none))) else ((spec_l11Leaf.f k x1000 x1001 x1002).bind fun bt315 => ((spec_l11Pad.f k x1).bind fun t318 => (if 1 + t318.size ≤ 9223372036854775807 then (if ((⟨#[10]⟩ : ByteArray) ++ t318).size + 6 ≤ 9223372036854775807 then ((spec_l01Of.f x1000 bt315.2.1 bt315.2.2 (([(⟨#[10]⟩ : ByteArray), (⟨#[10]⟩ : ByteArray), (⟨#[10]⟩ : ByteArray), ((⟨#[10]⟩ : ByteArray) ++ t318) ++ (⟨#[32, 109, 111, 114, 101, 10]⟩ : ByteArray)] : List ByteArray))).bind fun bt322 => (if bt315.1.size + bt322.1.size ≤ 9223372036854775807 then (some (bt315.1 ++ bt322.1, bt322.2.1, bt322.2.2)) else (none))) else (none)) else (none))))))
def spec_l11Draw.l0 : Nat → Int → Int → ByteArray → Int → List Int → Int → Int → Option (ByteArray × Int × Int)
  | 0, _, _, _, _, _, _, _ => none
  | k + 1, x1, x2, x8, x9, x1000, x1001, x1002 => if x9 > 0 then (if x8.toList = ([] : List UInt8) then (spec_l11Draw.j2 k x1 x2 x8 x9 x1000 x1001 x1002) else ((spec_l11Pad.f k x1).bind fun t260 => (if x8.size + t260.size ≤ 9223372036854775807 then (spec_l11Draw.j2 k x1 x2 (x8 ++ t260) x9 x1000 x1001 x1002) else (none)))) else (some (x8, x1001, x1002))
def spec_l11Draw.j2 : Nat → Int → Int → ByteArray → Int → List Int → Int → Int → Option (ByteArray × Int × Int)
  | 0, _, _, _, _, _, _, _ => none
  | k + 1, x1, x2, x8, x9, x1000, x1001, x1002 => (spec_l01Of.f x1000 x1001 x1002 (([(⟨#[]⟩ : ByteArray), (⟨#[]⟩ : ByteArray), (⟨#[]⟩ : ByteArray), (⟨#[38, 97, 32]⟩ : ByteArray)] : List ByteArray))).bind fun bt264 => (if x8.size + bt264.1.size ≤ 9223372036854775807 then ((spec_l01Of.f x1000 bt264.2.1 bt264.2.2 (([(⟨#[97]⟩ : ByteArray), (⟨#[107, 101, 121]⟩ : ByteArray), (⟨#[39, 107, 39]⟩ : ByteArray), (⟨#[34, 107, 34]⟩ : ByteArray), (⟨#[42, 97]⟩ : ByteArray), (⟨#[120, 32, 121]⟩ : ByteArray)] : List ByteArray))).bind fun bt270 => (if (x8 ++ bt264.1).size + bt270.1.size ≤ 9223372036854775807 then ((spec_l01Of.f x1000 bt270.2.1 bt270.2.2 (([(⟨#[58]⟩ : ByteArray), (⟨#[58]⟩ : ByteArray), (⟨#[32, 58]⟩ : ByteArray)] : List ByteArray))).bind fun bt276 => (if ((x8 ++ bt264.1) ++ bt270.1).size + bt276.1.size ≤ 9223372036854775807 then ((spec_l11Value0.g (fun y0 y1 y2 y3 y4 => spec_l11Draw.f k y0 y1 y2 y3 y4) k x1000 bt276.2.1 bt276.2.2 x1 x2).bind fun bt279 => (if (((x8 ++ bt264.1) ++ bt270.1) ++ bt276.1).size + bt279.1.size ≤ 9223372036854775807 then (spec_l11Draw.l0 k x1 x2 ((((x8 ++ bt264.1) ++ bt270.1) ++ bt276.1) ++ bt279.1) (wrap64 (x9 - 1)) x1000 bt279.2.1 bt279.2.2) else (none))) else (none))) else (none))) else (none))
def spec_l11Draw.l1 : Nat → Int → Int → ByteArray → Int → List Int → Int → Int → Option (ByteArray × Int × Int)
  | 0, _, _, _, _, _, _, _ => none
  | k + 1, x1, x2, x8, x10, x1000, x1001, x1002 => if x10 > 0 then (if x8.toList = ([] : List UInt8) then (spec_l11Draw.j4 k x1 x2 x8 x10 x1000 x1001 x1002) else ((spec_l11Pad.f k x1).bind fun t285 => (if x8.size + t285.size ≤ 9223372036854775807 then (spec_l11Draw.j4 k x1 x2 (x8 ++ t285) x10 x1000 x1001 x1002) else (none)))) else (some (x8, x1001, x1002))
def spec_l11Draw.j4 : Nat → Int → Int → ByteArray → Int → List Int → Int → Int → Option (ByteArray × Int × Int)
  | 0, _, _, _, _, _, _, _ => none
  | k + 1, x1, x2, x8, x10, x1000, x1001, x1002 => if x8.size + 1 ≤ 9223372036854775807 then ((spec_l01Of.f x1000 x1001 x1002 (([(⟨#[32]⟩ : ByteArray), (⟨#[32]⟩ : ByteArray), (⟨#[32]⟩ : ByteArray), (⟨#[32, 32]⟩ : ByteArray)] : List ByteArray))).bind fun bt289 => (if (x8 ++ (⟨#[45]⟩ : ByteArray)).size + bt289.1.size ≤ 9223372036854775807 then ((spec_l01Below.f x1000 bt289.2.1 bt289.2.2 2).bind fun bt292 => (if bt292.1 = 0 then ((spec_l11Draw.f k x1000 bt292.2.1 bt292.2.2 (wrap64 (x1 + 2)) (wrap64 (x2 - 1))).bind fun bt295 => (if ((x8 ++ (⟨#[45]⟩ : ByteArray)) ++ bt289.1).size + bt295.1.size ≤ 9223372036854775807 then (spec_l11Draw.l1 k x1 x2 (((x8 ++ (⟨#[45]⟩ : ByteArray)) ++ bt289.1) ++ bt295.1) (wrap64 (x10 - 1)) x1000 bt295.2.1 bt295.2.2) else (none))) else ((spec_l11Leaf.f k x1000 bt292.2.1 bt292.2.2).bind fun bt298 => (if ((x8 ++ (⟨#[45]⟩ : ByteArray)) ++ bt289.1).size + bt298.1.size ≤ 9223372036854775807 then ((spec_l01Of.f x1000 bt298.2.1 bt298.2.2 (([(⟨#[10]⟩ : ByteArray), (⟨#[10]⟩ : ByteArray), (⟨#[32, 35, 32, 114, 10]⟩ : ByteArray)] : List ByteArray))).bind fun bt304 => (if (((x8 ++ (⟨#[45]⟩ : ByteArray)) ++ bt289.1) ++ bt298.1).size + bt304.1.size ≤ 9223372036854775807 then (spec_l11Draw.l1 k x1 x2 ((((x8 ++ (⟨#[45]⟩ : ByteArray)) ++ bt289.1) ++ bt298.1) ++ bt304.1) (wrap64 (x10 - 1)) x1000 bt304.2.1 bt304.2.2) else (none))) else (none))))) else (none))) else (none)
def spec_l11Draw.f : Nat → List Int → Int → Int → Int → Int → Option (ByteArray × Int × Int)
  | 0, _, _, _, _, _ => none
  | k + 1, s0_0, s0_1, s0_2, a1, a2 => (spec_l01Below.f s0_0 s0_1 s0_2 9).bind fun bt254 => (if a2 ≤ 0 then (spec_l11Draw.j0 k a1 a2 8 s0_0 bt254.2.1 bt254.2.2) else (spec_l11Draw.j0 k a1 a2 bt254.1 s0_0 bt254.2.1 bt254.2.2))
end
theorem spec_l11Draw.mono_l : ∀ k, (∀ y0 y1 y2 y3 y4, LeO (spec_l11Draw.f k y0 y1 y2 y3 y4) (spec_l11Draw.f (k + 1) y0 y1 y2 y3 y4)) ∧ (∀ y0 y1 y2 y3 y4 y5, LeO (spec_l11Draw.j0 k y0 y1 y2 y3 y4 y5) (spec_l11Draw.j0 (k + 1) y0 y1 y2 y3 y4 y5)) ∧ (∀ y0 y1 y2 y3 y4 y5 y6, LeO (spec_l11Draw.l0 k y0 y1 y2 y3 y4 y5 y6) (spec_l11Draw.l0 (k + 1) y0 y1 y2 y3 y4 y5 y6)) ∧ (∀ y0 y1 y2 y3 y4 y5 y6, LeO (spec_l11Draw.j2 k y0 y1 y2 y3 y4 y5 y6) (spec_l11Draw.j2 (k + 1) y0 y1 y2 y3 y4 y5 y6)) ∧ (∀ y0 y1 y2 y3 y4 y5 y6, LeO (spec_l11Draw.l1 k y0 y1 y2 y3 y4 y5 y6) (spec_l11Draw.l1 (k + 1) y0 y1 y2 y3 y4 y5 y6)) ∧ (∀ y0 y1 y2 y3 y4 y5 y6, LeO (spec_l11Draw.j4 k y0 y1 y2 y3 y4 y5 y6) (spec_l11Draw.j4 (k + 1) y0 y1 y2 y3 y4 y5 y6))
  | 0 => ⟨fun _ _ _ _ _ r h => by simp [spec_l11Draw.f] at h, fun _ _ _ _ _ _ r h => by simp [spec_l11Draw.j0] at h, fun _ _ _ _ _ _ _ r h => by simp [spec_l11Draw.l0] at h, fun _ _ _ _ _ _ _ r h => by simp [spec_l11Draw.j2] at h, fun _ _ _ _ _ _ _ r h => by simp [spec_l11Draw.l1] at h, fun _ _ _ _ _ _ _ r h => by simp [spec_l11Draw.j4] at h⟩
  | k + 1 => by
    obtain ⟨ih0, ih1, ih2, ih3, ih4, ih5⟩ := spec_l11Draw.mono_l k
    refine ⟨?_, ?_, ?_, ?_, ?_, ?_⟩
    · intro y0 y1 y2 y3 y4
      unfold spec_l11Draw.f
      repeat' first
      | (with_reducible exact ih0 _ _ _ _ _)
      | (with_reducible exact ih1 _ _ _ _ _ _)
      | (with_reducible exact ih2 _ _ _ _ _ _ _)
      | (with_reducible exact ih3 _ _ _ _ _ _ _)
      | (with_reducible exact ih4 _ _ _ _ _ _ _)
      | (with_reducible exact ih5 _ _ _ _ _ _ _)
      | (with_reducible exact spec_l11Leaf.mono _ _ _ _)
      | (with_reducible exact spec_l11Pad.mono _ _)
      | (with_reducible exact spec_l11Value0.mono _ _ _ _ _ _)
      | (with_reducible exact LeO.refl _)
      | (with_reducible exact LeO.none _)
      | (with_reducible refine LeO.ite ?_ ?_)
      | (with_reducible refine LeO.bind ?_ (fun _ => ?_))
      | exact ih0 _ _ _ _ _
      | exact ih1 _ _ _ _ _ _
      | exact ih2 _ _ _ _ _ _ _
      | exact ih3 _ _ _ _ _ _ _
      | exact ih4 _ _ _ _ _ _ _
      | exact ih5 _ _ _ _ _ _ _
      | exact spec_l11Leaf.mono _ _ _ _
      | exact spec_l11Pad.mono _ _
      | exact spec_l11Value0.g_mono _ _ ih0 _ _ _ _ _ _
      | exact LeO.none _
      | refine LeO.ite ?_ ?_
      | refine LeO.bind ?_ (fun _ => ?_)
    · intro y0 y1 y2 y3 y4 y5
      unfold spec_l11Draw.j0
      repeat' first
      | (with_reducible exact ih0 _ _ _ _ _)
      | (with_reducible exact ih1 _ _ _ _ _ _)
      | (with_reducible exact ih2 _ _ _ _ _ _ _)
      | (with_reducible exact ih3 _ _ _ _ _ _ _)
      | (with_reducible exact ih4 _ _ _ _ _ _ _)
      | (with_reducible exact ih5 _ _ _ _ _ _ _)
      | (with_reducible exact spec_l11Leaf.mono _ _ _ _)
      | (with_reducible exact spec_l11Pad.mono _ _)
      | (with_reducible exact spec_l11Value0.mono _ _ _ _ _ _)
      | (with_reducible exact LeO.refl _)
      | (with_reducible exact LeO.none _)
      | (with_reducible refine LeO.ite ?_ ?_)
      | (with_reducible refine LeO.bind ?_ (fun _ => ?_))
      | exact ih0 _ _ _ _ _
      | exact ih1 _ _ _ _ _ _
      | exact ih2 _ _ _ _ _ _ _
      | exact ih3 _ _ _ _ _ _ _
      | exact ih4 _ _ _ _ _ _ _
      | exact ih5 _ _ _ _ _ _ _
      | exact spec_l11Leaf.mono _ _ _ _
      | exact spec_l11Pad.mono _ _
      | exact spec_l11Value0.g_mono _ _ ih0 _ _ _ _ _ _
      | exact LeO.none _
      | refine LeO.ite ?_ ?_
      | refine LeO.bind ?_ (fun _ => ?_)
    · intro y0 y1 y2 y3 y4 y5 y6
      unfold spec_l11Draw.l0
      repeat' first
      | (with_reducible exact ih0 _ _ _ _ _)
      | (with_reducible exact ih1 _ _ _ _ _ _)
      | (with_reducible exact ih2 _ _ _ _ _ _ _)
      | (with_reducible exact ih3 _ _ _ _ _ _ _)
      | (with_reducible exact ih4 _ _ _ _ _ _ _)
      | (with_reducible exact ih5 _ _ _ _ _ _ _)
      | (with_reducible exact spec_l11Leaf.mono _ _ _ _)
      | (with_reducible exact spec_l11Pad.mono _ _)
      | (with_reducible exact spec_l11Value0.mono _ _ _ _ _ _)
      | (with_reducible exact LeO.refl _)
      | (with_reducible exact LeO.none _)
      | (with_reducible refine LeO.ite ?_ ?_)
      | (with_reducible refine LeO.bind ?_ (fun _ => ?_))
      | exact ih0 _ _ _ _ _
      | exact ih1 _ _ _ _ _ _
      | exact ih2 _ _ _ _ _ _ _
      | exact ih3 _ _ _ _ _ _ _
      | exact ih4 _ _ _ _ _ _ _
      | exact ih5 _ _ _ _ _ _ _
      | exact spec_l11Leaf.mono _ _ _ _
      | exact spec_l11Pad.mono _ _
      | exact spec_l11Value0.g_mono _ _ ih0 _ _ _ _ _ _
      | exact LeO.none _
      | refine LeO.ite ?_ ?_
      | refine LeO.bind ?_ (fun _ => ?_)
    · intro y0 y1 y2 y3 y4 y5 y6
      unfold spec_l11Draw.j2
      repeat' first
      | (with_reducible exact ih0 _ _ _ _ _)
      | (with_reducible exact ih1 _ _ _ _ _ _)
      | (with_reducible exact ih2 _ _ _ _ _ _ _)
      | (with_reducible exact ih3 _ _ _ _ _ _ _)
      | (with_reducible exact ih4 _ _ _ _ _ _ _)
      | (with_reducible exact ih5 _ _ _ _ _ _ _)
      | (with_reducible exact spec_l11Leaf.mono _ _ _ _)
      | (with_reducible exact spec_l11Pad.mono _ _)
      | (with_reducible exact spec_l11Value0.mono _ _ _ _ _ _)
      | (with_reducible exact LeO.refl _)
      | (with_reducible exact LeO.none _)
      | (with_reducible refine LeO.ite ?_ ?_)
      | (with_reducible refine LeO.bind ?_ (fun _ => ?_))
      | exact ih0 _ _ _ _ _
      | exact ih1 _ _ _ _ _ _
      | exact ih2 _ _ _ _ _ _ _
      | exact ih3 _ _ _ _ _ _ _
      | exact ih4 _ _ _ _ _ _ _
      | exact ih5 _ _ _ _ _ _ _
      | exact spec_l11Leaf.mono _ _ _ _
      | exact spec_l11Pad.mono _ _
      | exact spec_l11Value0.g_mono _ _ ih0 _ _ _ _ _ _
      | exact LeO.none _
      | refine LeO.ite ?_ ?_
      | refine LeO.bind ?_ (fun _ => ?_)
    · intro y0 y1 y2 y3 y4 y5 y6
      unfold spec_l11Draw.l1
      repeat' first
      | (with_reducible exact ih0 _ _ _ _ _)
      | (with_reducible exact ih1 _ _ _ _ _ _)
      | (with_reducible exact ih2 _ _ _ _ _ _ _)
      | (with_reducible exact ih3 _ _ _ _ _ _ _)
      | (with_reducible exact ih4 _ _ _ _ _ _ _)
      | (with_reducible exact ih5 _ _ _ _ _ _ _)
      | (with_reducible exact spec_l11Leaf.mono _ _ _ _)
      | (with_reducible exact spec_l11Pad.mono _ _)
      | (with_reducible exact spec_l11Value0.mono _ _ _ _ _ _)
      | (with_reducible exact LeO.refl _)
      | (with_reducible exact LeO.none _)
      | (with_reducible refine LeO.ite ?_ ?_)
      | (with_reducible refine LeO.bind ?_ (fun _ => ?_))
      | exact ih0 _ _ _ _ _
      | exact ih1 _ _ _ _ _ _
      | exact ih2 _ _ _ _ _ _ _
      | exact ih3 _ _ _ _ _ _ _
      | exact ih4 _ _ _ _ _ _ _
      | exact ih5 _ _ _ _ _ _ _
      | exact spec_l11Leaf.mono _ _ _ _
      | exact spec_l11Pad.mono _ _
      | exact spec_l11Value0.g_mono _ _ ih0 _ _ _ _ _ _
      | exact LeO.none _
      | refine LeO.ite ?_ ?_
      | refine LeO.bind ?_ (fun _ => ?_)
    · intro y0 y1 y2 y3 y4 y5 y6
      unfold spec_l11Draw.j4
      repeat' first
      | (with_reducible exact ih0 _ _ _ _ _)
      | (with_reducible exact ih1 _ _ _ _ _ _)
      | (with_reducible exact ih2 _ _ _ _ _ _ _)
      | (with_reducible exact ih3 _ _ _ _ _ _ _)
      | (with_reducible exact ih4 _ _ _ _ _ _ _)
      | (with_reducible exact ih5 _ _ _ _ _ _ _)
      | (with_reducible exact spec_l11Leaf.mono _ _ _ _)
      | (with_reducible exact spec_l11Pad.mono _ _)
      | (with_reducible exact spec_l11Value0.mono _ _ _ _ _ _)
      | (with_reducible exact LeO.refl _)
      | (with_reducible exact LeO.none _)
      | (with_reducible refine LeO.ite ?_ ?_)
      | (with_reducible refine LeO.bind ?_ (fun _ => ?_))
      | exact ih0 _ _ _ _ _
      | exact ih1 _ _ _ _ _ _
      | exact ih2 _ _ _ _ _ _ _
      | exact ih3 _ _ _ _ _ _ _
      | exact ih4 _ _ _ _ _ _ _
      | exact ih5 _ _ _ _ _ _ _
      | exact spec_l11Leaf.mono _ _ _ _
      | exact spec_l11Pad.mono _ _
      | exact spec_l11Value0.g_mono _ _ ih0 _ _ _ _ _ _
      | exact LeO.none _
      | refine LeO.ite ?_ ?_
      | refine LeO.bind ?_ (fun _ => ?_)
theorem spec_l11Draw.mono : ∀ a0 a1 a2 a3 a4 k, LeO (spec_l11Draw.f k a0 a1 a2 a3 a4) (spec_l11Draw.f (k + 1) a0 a1 a2 a3 a4) := by
  intro a0 a1 a2 a3 a4 k
  obtain ⟨ih0, ih1, ih2, ih3, ih4, ih5⟩ := spec_l11Draw.mono_l k
  exact ih0 a0 a1 a2 a3 a4
/-! ### spec_l11Value0: function 36 -/
def spec_l11Value0.f (k : Nat) (s0_0 : List Int) (s0_1 : Int) (s0_2 : Int) (a1 : Int) (a2 : Int) : Option (ByteArray × Int × Int) := spec_l11Value0.g (fun y0 y1 y2 y3 y4 => spec_l11Draw.f k y0 y1 y2 y3 y4) k s0_0 s0_1 s0_2 a1 a2
theorem spec_l11Value0.mono : ∀ a0 a1 a2 a3 a4 k, LeO (spec_l11Value0.f k a0 a1 a2 a3 a4) (spec_l11Value0.f (k + 1) a0 a1 a2 a3 a4) := by
  intro a0 a1 a2 a3 a4 k
  exact spec_l11Value0.g_mono _ _ (fun y0 y1 y2 y3 y4 => spec_l11Draw.mono y0 y1 y2 y3 y4 k) k a0 a1 a2 a3 a4
set_option maxHeartbeats 8000000 in
set_option maxRecDepth 100000 in
theorem spec_l11Value0.calls_of (k : Nat) (IH : ∀ (g : Nat) (s0_0 : List Int) (s0_1 : Int) (s0_2 : Int) (a1 : Int) (a2 : Int) (r1 : ByteArray) (r2 : Int) (r3 : Int) (w0 w : World) (hI : IsS35 w0 w g s0_0 s0_1 s0_2) (hB : Below w0.heap.size w0 w) (h : spec_l11Draw.f k s0_0 s0_1 s0_2 a1 a2 = some (r1, r2, r3)),
    Calls Try.prog 31 #[.pointer (some ⟨g, 0, none⟩), .int .i64 a1, .int .i64 a2] w fun e w' => e = .returned (.string r1) ∧ IsS35 w0 w' g s0_0 r2 r3 ∧ Below w0.heap.size w0 w' ∧ KeepBut w w' g none) (g : Nat) (s0_0 : List Int) (s0_1 : Int) (s0_2 : Int) (a1 : Int) (a2 : Int) (r1 : ByteArray) (r2 : Int) (r3 : Int) (w0 w : World) (hI : IsS35 w0 w g s0_0 s0_1 s0_2) (hB : Below w0.heap.size w0 w) (h : spec_l11Value0.f k s0_0 s0_1 s0_2 a1 a2 = some (r1, r2, r3)) :
    Calls Try.prog 36 #[.pointer (some ⟨g, 0, none⟩), .int .i64 a1, .int .i64 a2] w fun e w' => e = .returned (.string r1) ∧ IsS35 w0 w' g s0_0 r2 r3 ∧ Below w0.heap.size w0 w' ∧ KeepBut w w' g none := by
  have HI0 := Aside0.mk hI
  have HK := Aside0.mk (KeepBut.refl w g none)
  have HL := Aside0.mk hB.size
  clear hI
  have HW0 := Aside0.mk hB.size
  have HB := Aside0.mk hB
  clear hB
  have H : ((spec_l01Below.f s0_0 s0_1 s0_2 6).bind fun bt229 => (if bt229.1 < 2 then ((spec_l11Leaf.f k s0_0 bt229.2.1 bt229.2.2).bind fun bt232 => (if 1 + bt232.1.size ≤ 9223372036854775807 then (if ((⟨#[32]⟩ : ByteArray) ++ bt232.1).size + 1 ≤ 9223372036854775807 then (some (((⟨#[32]⟩ : ByteArray) ++ bt232.1) ++ (⟨#[10]⟩ : ByteArray), bt232.2.1, bt232.2.2)) else (none)) else (none))) else (if bt229.1 < 4 then ((spec_l01Below.f s0_0 bt229.2.1 bt229.2.2 2).bind fun bt235 => ((spec_l01Of.f s0_0 bt235.2.1 bt235.2.2 (([(⟨#[10]⟩ : ByteArray), (⟨#[10]⟩ : ByteArray), (⟨#[32, 38, 98, 10]⟩ : ByteArray), (⟨#[32, 35, 32, 114, 10, 10]⟩ : ByteArray)] : List ByteArray))).bind fun bt241 => ((spec_l11Pad.f k (wrap64 ((wrap64 (a1 + 1)) + bt235.1))).bind fun t244 => (if bt241.1.size + t244.size ≤ 9223372036854775807 then ((spec_l11Draw.f k s0_0 bt241.2.1 bt241.2.2 (wrap64 ((wrap64 (a1 + 1)) + bt235.1)) (wrap64 (a2 - 1))).bind fun bt245 => (if (bt241.1 ++ t244).size + bt245.1.size ≤ 9223372036854775807 then (some ((bt241.1 ++ t244) ++ bt245.1, bt245.2.1, bt245.2.2)) else (none))) else (none))))) else (if bt229.1 = 4 then ((spec_l11Pad.f k a1).bind fun t248 => (if 1 + t248.size ≤ 9223372036854775807 then (if ((⟨#[10]⟩ : ByteArray) ++ t248).size + 4 ≤ 9223372036854775807 then ((spec_l11Pad.f k a1).bind fun t249 => (if (((⟨#[10]⟩ : ByteArray) ++ t248) ++ (⟨#[45, 32, 120, 10]⟩ : ByteArray)).size + t249.size ≤ 9223372036854775807 then (if ((((⟨#[10]⟩ : ByteArray) ++ t248) ++ (⟨#[45, 32, 120, 10]⟩ : ByteArray)) ++ t249).size + 2 ≤ 9223372036854775807 then ((spec_l11Leaf.f k s0_0 bt229.2.1 bt229.2.2).bind fun bt250 => (if (((((⟨#[10]⟩ : ByteArray) ++ t248) ++ (⟨#[45, 32, 120, 10]⟩ : ByteArray)) ++ t249) ++ (⟨#[45, 32]⟩ : ByteArray)).size + bt250.1.size ≤ 9223372036854775807 then (if ((((((⟨#[10]⟩ : ByteArray) ++ t248) ++ (⟨#[45, 32, 120, 10]⟩ : ByteArray)) ++ t249) ++ (⟨#[45, 32]⟩ : ByteArray)) ++ bt250.1).size + 1 ≤ 9223372036854775807 then (some (((((((⟨#[10]⟩ : ByteArray) ++ t248) ++ (⟨#[45, 32, 120, 10]⟩ : ByteArray)) ++ t249) ++ (⟨#[45, 32]⟩ : ByteArray)) ++ bt250.1) ++ (⟨#[10]⟩ : ByteArray), bt250.2.1, bt250.2.2)) else (none)) else (none))) else (none)) else (none))) else (none)) else (none))) else ((spec_l11Pad.f k a1).bind fun t253 => (if 3 + t253.size ≤ 9223372036854775807 then (if ((⟨#[32, 124, 10]⟩ : ByteArray) ++ t253).size + 4 ≤ 9223372036854775807 then (some (((⟨#[32, 124, 10]⟩ : ByteArray) ++ t253) ++ (⟨#[32, 32, 116, 10]⟩ : ByteArray), bt229.2.1, bt229.2.2)) else (none)) else (none))))))) = some (r1, r2, r3) := h
  clear h
  replace H := Option.bind_eq_some_iff.mp H
  obtain ⟨⟨t229, t230, t231⟩, A40, H⟩ := H
  replace H : (if t229 < 2 then ((spec_l11Leaf.f k s0_0 t230 t231).bind fun bt232 => (if 1 + bt232.1.size ≤ 9223372036854775807 then (if ((⟨#[32]⟩ : ByteArray) ++ bt232.1).size + 1 ≤ 9223372036854775807 then (some (((⟨#[32]⟩ : ByteArray) ++ bt232.1) ++ (⟨#[10]⟩ : ByteArray), bt232.2.1, bt232.2.2)) else (none)) else (none))) else (if t229 < 4 then ((spec_l01Below.f s0_0 t230 t231 2).bind fun bt235 => ((spec_l01Of.f s0_0 bt235.2.1 bt235.2.2 (([(⟨#[10]⟩ : ByteArray), (⟨#[10]⟩ : ByteArray), (⟨#[32, 38, 98, 10]⟩ : ByteArray), (⟨#[32, 35, 32, 114, 10, 10]⟩ : ByteArray)] : List ByteArray))).bind fun bt241 => ((spec_l11Pad.f k (wrap64 ((wrap64 (a1 + 1)) + bt235.1))).bind fun t244 => (if bt241.1.size + t244.size ≤ 9223372036854775807 then ((spec_l11Draw.f k s0_0 bt241.2.1 bt241.2.2 (wrap64 ((wrap64 (a1 + 1)) + bt235.1)) (wrap64 (a2 - 1))).bind fun bt245 => (if (bt241.1 ++ t244).size + bt245.1.size ≤ 9223372036854775807 then (some ((bt241.1 ++ t244) ++ bt245.1, bt245.2.1, bt245.2.2)) else (none))) else (none))))) else (if t229 = 4 then ((spec_l11Pad.f k a1).bind fun t248 => (if 1 + t248.size ≤ 9223372036854775807 then (if ((⟨#[10]⟩ : ByteArray) ++ t248).size + 4 ≤ 9223372036854775807 then ((spec_l11Pad.f k a1).bind fun t249 => (if (((⟨#[10]⟩ : ByteArray) ++ t248) ++ (⟨#[45, 32, 120, 10]⟩ : ByteArray)).size + t249.size ≤ 9223372036854775807 then (if ((((⟨#[10]⟩ : ByteArray) ++ t248) ++ (⟨#[45, 32, 120, 10]⟩ : ByteArray)) ++ t249).size + 2 ≤ 9223372036854775807 then ((spec_l11Leaf.f k s0_0 t230 t231).bind fun bt250 => (if (((((⟨#[10]⟩ : ByteArray) ++ t248) ++ (⟨#[45, 32, 120, 10]⟩ : ByteArray)) ++ t249) ++ (⟨#[45, 32]⟩ : ByteArray)).size + bt250.1.size ≤ 9223372036854775807 then (if ((((((⟨#[10]⟩ : ByteArray) ++ t248) ++ (⟨#[45, 32, 120, 10]⟩ : ByteArray)) ++ t249) ++ (⟨#[45, 32]⟩ : ByteArray)) ++ bt250.1).size + 1 ≤ 9223372036854775807 then (some (((((((⟨#[10]⟩ : ByteArray) ++ t248) ++ (⟨#[45, 32, 120, 10]⟩ : ByteArray)) ++ t249) ++ (⟨#[45, 32]⟩ : ByteArray)) ++ bt250.1) ++ (⟨#[10]⟩ : ByteArray), bt250.2.1, bt250.2.2)) else (none)) else (none))) else (none)) else (none))) else (none)) else (none))) else ((spec_l11Pad.f k a1).bind fun t253 => (if 3 + t253.size ≤ 9223372036854775807 then (if ((⟨#[32, 124, 10]⟩ : ByteArray) ++ t253).size + 4 ≤ 9223372036854775807 then (some (((⟨#[32, 124, 10]⟩ : ByteArray) ++ t253) ++ (⟨#[32, 32, 116, 10]⟩ : ByteArray), t230, t231)) else (none)) else (none)))))) = some (r1, r2, r3) := H
  have A4 := Aside0.mk A40
  clear A40
  by_cases c5 : t229 < 2
  · rw [if_pos c5] at H
    have c5b0 : decide (t229 < 2) = true := decide_eq_true c5
    clear c5
    replace H := Option.bind_eq_some_iff.mp H
    obtain ⟨⟨t232, t233, t234⟩, A60, H⟩ := H
    replace H : (if 1 + t232.size ≤ 9223372036854775807 then (if ((⟨#[32]⟩ : ByteArray) ++ t232).size + 1 ≤ 9223372036854775807 then (some (((⟨#[32]⟩ : ByteArray) ++ t232) ++ (⟨#[10]⟩ : ByteArray), t233, t234)) else (none)) else (none)) = some (r1, r2, r3) := H
    have A6 := Aside0.mk A60
    clear A60
    by_cases c7 : 1 + t232.size ≤ 9223372036854775807
    · rw [if_pos c7] at H
      have c7b0 := eq_true c7
      have c7b1 : decide (1 + t232.size ≤ 9223372036854775807) = true := decide_eq_true c7
      try have c7b2 : (9223372036854775807 < 1 + t232.size) = False := eq_false (Nat.not_lt.2 c7)
      try (have c7b4 := c7b2; simp only [ByteArray.size_extract, Nat.min_self] at c7b4)
      by_cases c8 : ((⟨#[32]⟩ : ByteArray) ++ t232).size + 1 ≤ 9223372036854775807
      · rw [if_pos c8] at H
        have c8b0 := eq_true c8
        have c8b1 : decide (((⟨#[32]⟩ : ByteArray) ++ t232).size + 1 ≤ 9223372036854775807) = true := decide_eq_true c8
        try have c8b2 : (9223372036854775807 < ((⟨#[32]⟩ : ByteArray) ++ t232).size + 1) = False := eq_false (Nat.not_lt.2 c8)
        try have c8b5 : (9223372036854775807 < 1 + t232.size + 1) = False := by (have q := c8b2; simp only [ByteArray.size_append] at q; exact q)
        try (have c8b4 := c8b2; simp only [ByteArray.size_extract, Nat.min_self] at c8b4)
        simp only [Option.some.injEq, Prod.mk.injEq] at H
        obtain ⟨rfl, rfl, rfl⟩ := H
        go_enter Try.func36, Try.ntmps36
        go_wp2_with (first | ((with_reducible refine gate_callee (f := 16) rfl ?_); refine goesL_ (some 10) rfl rfl Try.func16 (by kernel_rfl) rfl #[.pointer (some ⟨g, 0, none⟩), .int .i64 6] rfl (by (try simp only [List.map_toArray, List.map_cons, List.map_nil]); first | done | rfl | (simp only [List.length_drop, List.length_take]; rfl)) ?_; (with_reducible refine (spec_l01Below.calls g s0_0 s0_1 s0_2 6 t229 t230 t231 w0 _ ?side1 ?side2 A4.out).mono ?_); (case side1 => repeat (first | (with_reducible first | exact HI0.out | apply IsS35.alloc | apply IsS35.drewN | apply IsS35.drew | apply IsS35.set_1 | apply IsS35.set_2) | exact HI0.out)); (case side2 => repeat (first | (with_reducible first | exact HB.out | apply below_alloc | apply pw_below_drewN | apply below_drew1 | refine below_set ?_ (IsS35.ge HI0.out)) | exact HB.out)); rintro e w9 ⟨rfl, hi, hb, hk⟩; refine ⟨_, rfl, ?_⟩; have n0_ := Aside0.mk (KeepBut.trans (by repeat (first | (with_reducible first | exact HK.out | apply KeepBut.set_ | apply keep_drewN | apply keep_drew | apply keep_alloc) | exact HK.out)) hk (.inl rfl)); have n1_ := Aside0.mk (hb); have n2_ := Aside0.mk (hi); clear HK; clear HB; clear HI0; have HK := n0_; have HB := n1_; have HI0 := n2_; clear n0_ n1_ n2_; (try clear hb); (try clear hb2); (try clear hk); (try clear hi)) | ((with_reducible refine gate_callee (f := 32) rfl ?_); refine goesL_ (some 15) rfl rfl Try.func32 (by kernel_rfl) rfl #[.pointer (some ⟨g, 0, none⟩)] rfl (by (try simp only [List.map_toArray, List.map_cons, List.map_nil]); first | done | rfl | (simp only [List.length_drop, List.length_take]; rfl)) ?_; (with_reducible refine (spec_l11Leaf.calls k g s0_0 t230 t231 t232 t233 t234 w0 _ ?side1 ?side2 A6.out).mono ?_); (case side1 => repeat (first | (with_reducible first | exact HI0.out | apply IsS35.alloc | apply IsS35.drewN | apply IsS35.drew | apply IsS35.set_1 | apply IsS35.set_2) | exact HI0.out)); (case side2 => repeat (first | (with_reducible first | exact HB.out | apply below_alloc | apply pw_below_drewN | apply below_drew1 | refine below_set ?_ (IsS35.ge HI0.out)) | exact HB.out)); rintro e w10 ⟨rfl, hi, hb, hk⟩; refine ⟨_, rfl, ?_⟩; have n0_ := Aside0.mk (KeepBut.trans (by repeat (first | (with_reducible first | exact HK.out | apply KeepBut.set_ | apply keep_drewN | apply keep_drew | apply keep_alloc) | exact HK.out)) hk (.inl rfl)); have n1_ := Aside0.mk (hb); have n2_ := Aside0.mk (hi); clear HK; clear HB; clear HI0; have HK := n0_; have HB := n1_; have HI0 := n2_; clear n0_ n1_ n2_; (try clear hb); (try clear hb2); (try clear hk); (try clear hi)))
        go_ret
        exact ⟨by first | rfl | (simp [errW_none, errW_some] <;> rfl) | (simp [*, errW_none, errW_some] <;> rfl), by repeat (first | (with_reducible first | exact HI0.out | apply IsS35.alloc | apply IsS35.drewN | apply IsS35.drew | apply IsS35.set_1 | apply IsS35.set_2) | exact HI0.out), by repeat (first | (with_reducible first | exact HB.out | apply below_alloc | apply pw_below_drewN | apply below_drew1 | refine below_set ?_ (IsS35.ge HI0.out)) | exact HB.out), by repeat (first | (with_reducible first | exact HK.out | apply KeepBut.set_ | apply keep_drewN | apply keep_drew | apply keep_alloc) | exact HK.out)⟩
      · rw [if_neg c8] at H
        exact absurd H (by simp)
    · rw [if_neg c7] at H
      exact absurd H (by simp)
  · rw [if_neg c5] at H
    have c5b0 : decide (t229 < 2) = false := decide_eq_false c5
    clear c5
    by_cases c11 : t229 < 4
    · rw [if_pos c11] at H
      have c11b0 : decide (t229 < 4) = true := decide_eq_true c11
      clear c11
      replace H := Option.bind_eq_some_iff.mp H
      obtain ⟨⟨t235, t236, t237⟩, A120, H⟩ := H
      replace H : ((spec_l01Of.f s0_0 t236 t237 (([(⟨#[10]⟩ : ByteArray), (⟨#[10]⟩ : ByteArray), (⟨#[32, 38, 98, 10]⟩ : ByteArray), (⟨#[32, 35, 32, 114, 10, 10]⟩ : ByteArray)] : List ByteArray))).bind fun bt241 => ((spec_l11Pad.f k (wrap64 ((wrap64 (a1 + 1)) + t235))).bind fun t244 => (if bt241.1.size + t244.size ≤ 9223372036854775807 then ((spec_l11Draw.f k s0_0 bt241.2.1 bt241.2.2 (wrap64 ((wrap64 (a1 + 1)) + t235)) (wrap64 (a2 - 1))).bind fun bt245 => (if (bt241.1 ++ t244).size + bt245.1.size ≤ 9223372036854775807 then (some ((bt241.1 ++ t244) ++ bt245.1, bt245.2.1, bt245.2.2)) else (none))) else (none)))) = some (r1, r2, r3) := H
      have A12 := Aside0.mk A120
      clear A120
      obtain ⟨y238, hy238⟩ : ∃ y_ : List ByteArray, y_ = (([(⟨#[10]⟩ : ByteArray), (⟨#[10]⟩ : ByteArray), (⟨#[32, 38, 98, 10]⟩ : ByteArray), (⟨#[32, 35, 32, 114, 10, 10]⟩ : ByteArray)] : List ByteArray)) := ⟨_, rfl⟩
      replace H : ((spec_l01Of.f s0_0 t236 t237 y238).bind fun bt241 => ((spec_l11Pad.f k (wrap64 ((wrap64 (a1 + 1)) + t235))).bind fun t244 => (if bt241.1.size + t244.size ≤ 9223372036854775807 then ((spec_l11Draw.f k s0_0 bt241.2.1 bt241.2.2 (wrap64 ((wrap64 (a1 + 1)) + t235)) (wrap64 (a2 - 1))).bind fun bt245 => (if (bt241.1 ++ t244).size + bt245.1.size ≤ 9223372036854775807 then (some ((bt241.1 ++ t244) ++ bt245.1, bt245.2.1, bt245.2.2)) else (none))) else (none)))) = some (r1, r2, r3) := by first | (rw [hy238]; with_reducible exact H) | (have H2_ := (Option.bind_some _ _).symm.trans H; rw [hy238]; with_reducible exact H2_) | (have H2_ := (Option.bind_some _ _).symm.trans H; with_reducible exact H2_) | with_reducible exact H | (rw [hy238]; exact H) | exact H
      have Ny238 := Aside0.mk hy238
      clear hy238
      replace H := Option.bind_eq_some_iff.mp H
      obtain ⟨⟨t241, t242, t243⟩, A130, H⟩ := H
      replace H : ((spec_l11Pad.f k (wrap64 ((wrap64 (a1 + 1)) + t235))).bind fun t244 => (if t241.size + t244.size ≤ 9223372036854775807 then ((spec_l11Draw.f k s0_0 t242 t243 (wrap64 ((wrap64 (a1 + 1)) + t235)) (wrap64 (a2 - 1))).bind fun bt245 => (if (t241 ++ t244).size + bt245.1.size ≤ 9223372036854775807 then (some ((t241 ++ t244) ++ bt245.1, bt245.2.1, bt245.2.2)) else (none))) else (none))) = some (r1, r2, r3) := H
      have A13 := Aside0.mk A130
      clear A130
      replace H := Option.bind_eq_some_iff.mp H
      obtain ⟨t244, A140, H⟩ := H
      replace H : (if t241.size + t244.size ≤ 9223372036854775807 then ((spec_l11Draw.f k s0_0 t242 t243 (wrap64 ((wrap64 (a1 + 1)) + t235)) (wrap64 (a2 - 1))).bind fun bt245 => (if (t241 ++ t244).size + bt245.1.size ≤ 9223372036854775807 then (some ((t241 ++ t244) ++ bt245.1, bt245.2.1, bt245.2.2)) else (none))) else (none)) = some (r1, r2, r3) := H
      have A14 := Aside0.mk A140
      clear A140
      by_cases c15 : t241.size + t244.size ≤ 9223372036854775807
      · rw [if_pos c15] at H
        have c15b0 := eq_true c15
        have c15b1 : decide (t241.size + t244.size ≤ 9223372036854775807) = true := decide_eq_true c15
        try have c15b2 : (9223372036854775807 < t241.size + t244.size) = False := eq_false (Nat.not_lt.2 c15)
        try (have c15b4 := c15b2; simp only [ByteArray.size_extract, Nat.min_self] at c15b4)
        replace H := Option.bind_eq_some_iff.mp H
        obtain ⟨⟨t245, t246, t247⟩, A160, H⟩ := H
        replace H : (if (t241 ++ t244).size + t245.size ≤ 9223372036854775807 then (some ((t241 ++ t244) ++ t245, t246, t247)) else (none)) = some (r1, r2, r3) := H
        have A16 := Aside0.mk A160
        clear A160
        by_cases c17 : (t241 ++ t244).size + t245.size ≤ 9223372036854775807
        · rw [if_pos c17] at H
          have c17b0 := eq_true c17
          have c17b1 : decide ((t241 ++ t244).size + t245.size ≤ 9223372036854775807) = true := decide_eq_true c17
          try have c17b2 : (9223372036854775807 < (t241 ++ t244).size + t245.size) = False := eq_false (Nat.not_lt.2 c17)
          try have c17b5 : (9223372036854775807 < t241.size + t244.size + t245.size) = False := by (have q := c17b2; simp only [ByteArray.size_append] at q; exact q)
          try (have c17b4 := c17b2; simp only [ByteArray.size_extract, Nat.min_self] at c17b4)
          simp only [Option.some.injEq, Prod.mk.injEq] at H
          obtain ⟨rfl, rfl, rfl⟩ := H
          go_enter Try.func36, Try.ntmps36
          go_wp2_with (first | ((with_reducible refine gate_callee (f := 16) rfl ?_); refine goesL_ (some 10) rfl rfl Try.func16 (by kernel_rfl) rfl #[.pointer (some ⟨g, 0, none⟩), .int .i64 6] rfl (by (try simp only [List.map_toArray, List.map_cons, List.map_nil]); first | done | rfl | (simp only [List.length_drop, List.length_take]; rfl)) ?_; (with_reducible refine (spec_l01Below.calls g s0_0 s0_1 s0_2 6 t229 t230 t231 w0 _ ?side1 ?side2 A4.out).mono ?_); (case side1 => repeat (first | (with_reducible first | exact HI0.out | apply IsS35.alloc | apply IsS35.drewN | apply IsS35.drew | apply IsS35.set_1 | apply IsS35.set_2) | exact HI0.out)); (case side2 => repeat (first | (with_reducible first | exact HB.out | apply below_alloc | apply pw_below_drewN | apply below_drew1 | refine below_set ?_ (IsS35.ge HI0.out)) | exact HB.out)); rintro e w18 ⟨rfl, hi, hb, hk⟩; refine ⟨_, rfl, ?_⟩; have n0_ := Aside0.mk (KeepBut.trans (by repeat (first | (with_reducible first | exact HK.out | apply KeepBut.set_ | apply keep_drewN | apply keep_drew | apply keep_alloc) | exact HK.out)) hk (.inl rfl)); have n1_ := Aside0.mk (hb); have n2_ := Aside0.mk (hi); clear HK; clear HB; clear HI0; have HK := n0_; have HB := n1_; have HI0 := n2_; clear n0_ n1_ n2_; (try clear hb); (try clear hb2); (try clear hk); (try clear hi)) | ((with_reducible refine gate_callee (f := 16) rfl ?_); refine goesL_ (some 24) rfl rfl Try.func16 (by kernel_rfl) rfl #[.pointer (some ⟨g, 0, none⟩), .int .i64 2] rfl (by (try simp only [List.map_toArray, List.map_cons, List.map_nil]); first | done | rfl | (simp only [List.length_drop, List.length_take]; rfl)) ?_; (with_reducible refine (spec_l01Below.calls g s0_0 t230 t231 2 t235 t236 t237 w0 _ ?side1 ?side2 A12.out).mono ?_); (case side1 => repeat (first | (with_reducible first | exact HI0.out | apply IsS35.alloc | apply IsS35.drewN | apply IsS35.drew | apply IsS35.set_1 | apply IsS35.set_2) | exact HI0.out)); (case side2 => repeat (first | (with_reducible first | exact HB.out | apply below_alloc | apply pw_below_drewN | apply below_drew1 | refine below_set ?_ (IsS35.ge HI0.out)) | exact HB.out)); rintro e w19 ⟨rfl, hi, hb, hk⟩; refine ⟨_, rfl, ?_⟩; have n0_ := Aside0.mk (KeepBut.trans (by repeat (first | (with_reducible first | exact HK.out | apply KeepBut.set_ | apply keep_drewN | apply keep_drew | apply keep_alloc) | exact HK.out)) hk (.inl rfl)); have n1_ := Aside0.mk (hb); have n2_ := Aside0.mk (hi); clear HK; clear HB; clear HI0; have HK := n0_; have HB := n1_; have HI0 := n2_; clear n0_ n1_ n2_; (try clear hb); (try clear hb2); (try clear hk); (try clear hi)) | ((with_reducible refine gate_dst (N := 27) rfl ?_); refine Kd.R_lit Kd.string _ 9 ?hg (N := 27) ?hd (xs := ([(⟨#[10]⟩ : ByteArray), (⟨#[10]⟩ : ByteArray), (⟨#[32, 38, 98, 10]⟩ : ByteArray), (⟨#[32, 35, 32, 114, 10, 10]⟩ : ByteArray)] : List ByteArray)) (inner := [.string (⟨#[10]⟩ : ByteArray), .string (⟨#[10]⟩ : ByteArray), .string (⟨#[32, 38, 98, 10]⟩ : ByteArray), .string (⟨#[32, 35, 32, 114, 10, 10]⟩ : ByteArray)]) (ok := fun _ => True) (okp := fun _ => True) ?hr ?hp (fun _ hk => hk) trivial (Below.refl _ _) (Nat.le_refl _) (by simp) ?_; (case hd => rfl); (case hg => rfl); (case hr => first | (go_simp; done) | (go_simp; rfl)); (case hp => exact (Reps.one (show Kd.M Kd.string _ _ _ (⟨#[10]⟩ : ByteArray) [.string (⟨#[10]⟩ : ByteArray)] from rfl) (Reps.one (show Kd.M Kd.string _ _ _ (⟨#[10]⟩ : ByteArray) [.string (⟨#[10]⟩ : ByteArray)] from rfl) (Reps.one (show Kd.M Kd.string _ _ _ (⟨#[32, 38, 98, 10]⟩ : ByteArray) [.string (⟨#[32, 38, 98, 10]⟩ : ByteArray)] from rfl) (Reps.one (show Kd.M Kd.string _ _ _ (⟨#[32, 35, 32, 114, 10, 10]⟩ : ByteArray) [.string (⟨#[32, 35, 32, 114, 10, 10]⟩ : ByteArray)] from rfl) (Reps.none _ _)))))); intro v239 w20 ho21 hb hg_ hnew_; clear hg_ hnew_; (first | rw [← Ny238.out] at ho21 | (simp only [Int.reduceToNat] at ho21; rw [← Ny238.out] at ho21)); have n0_ := Aside0.mk (Kd.R_lower ho21 (keep_size (w := w) (g := g) (row := none) (by repeat (first | (with_reducible first | exact HK.out | apply KeepBut.set_ | apply keep_drewN | apply keep_drew | apply keep_alloc) | exact HK.out)))); have n1_ := Aside0.mk (IsS35.below (by repeat (first | (with_reducible first | exact HI0.out | apply IsS35.alloc | apply IsS35.drewN | apply IsS35.drew | apply IsS35.set_1 | apply IsS35.set_2) | exact HI0.out)) hb); have n2_ := Aside0.mk (KeepBut.trans (by repeat (first | (with_reducible first | exact HK.out | apply KeepBut.set_ | apply keep_drewN | apply keep_drew | apply keep_alloc) | exact HK.out)) (KeepBut.of_below hb g none) (.inl rfl)); have n3_ := Aside0.mk (below_step (by repeat (first | (with_reducible first | exact HB.out | apply below_alloc | apply pw_below_drewN | apply below_drew1 | refine below_set ?_ (IsS35.ge HI0.out)) | exact HB.out)) hb); clear HI0; clear HK; clear HB; have HO240 := n0_; have HI0 := n1_; have HK := n2_; have HB := n3_; clear n0_ n1_ n2_ n3_; clear hb ho21; obtain ⟨Ao22, co22, eo22⟩ := Kd.R_slice HO240.out; subst eo22) | ((with_reducible refine gate_callee (f := 28) rfl ?_); refine goesL_ (some 28) rfl rfl Try.func28 (by kernel_rfl) rfl #[.pointer (some ⟨g, 0, none⟩), .slice Ao22 y238.length co22] rfl (by (try simp only [List.map_toArray, List.map_cons, List.map_nil]); first | done | rfl | (simp only [List.length_drop, List.length_take]; rfl)) ?_; (with_reducible refine (spec_l01Of.calls g s0_0 t236 t237 _ _ y238 t241 t242 t243 w0 _ ?side1 ?side2 ?side3 ?side4 ?side5 A13.out).mono ?_); (case side1 => repeat (first | (with_reducible first | exact HI0.out | apply IsS35.alloc | apply IsS35.drewN | apply IsS35.drew | apply IsS35.set_1 | apply IsS35.set_2) | exact HI0.out)); (case side2 => repeat (first | (with_reducible first | exact HB.out | apply below_alloc | apply pw_below_drewN | apply below_drew1 | refine below_set ?_ (IsS35.ge HI0.out)) | exact HB.out)); (case side3 => repeat (first | exact (Kd.R_reads' HO240.out).2.2 | (with_reducible refine Kd.C_alloc ?_ _) | (with_reducible refine Kd.C_drewN ?_ _) | (with_reducible refine Kd.C_drew ?_))); (case side4 => exact (Kd.R_reads' HO240.out).2.1); (case side5 => exact far_slice (IsS35.own_ne HI0.out HO240.out (by decide))); rintro e w23 ⟨rfl, hi, hb, hk⟩; refine ⟨_, rfl, ?_⟩; have n0_ := Aside0.mk (Kd.R_mono (Kd.R_keep (IsS35.apart (show IsS35 w0 _ g s0_0 t236 t237 from by repeat (first | (with_reducible first | exact HI0.out | apply IsS35.alloc | apply IsS35.drewN | apply IsS35.drew | apply IsS35.set_1 | apply IsS35.set_2) | exact HI0.out)) (by (with_reducible repeat (first | apply Kd.R_alloc | apply Kd.R_drewN | apply Kd.R_drew)); exact HO240.out) (by decide)) hk (fun _ h => h.2)) (fun _ h => h.1)); have n1_ := Aside0.mk (KeepBut.trans (by repeat (first | (with_reducible first | exact HK.out | apply KeepBut.set_ | apply keep_drewN | apply keep_drew | apply keep_alloc) | exact HK.out)) hk (.inl rfl)); have n2_ := Aside0.mk (hb); have n3_ := Aside0.mk (hi); clear HO240; clear HK; clear HB; clear HI0; have HO240 := n0_; have HK := n1_; have HB := n2_; have HI0 := n3_; clear n0_ n1_ n2_ n3_; (try clear hb); (try clear hb2); (try clear hk); (try clear hi)) | ((with_reducible refine gate_callee (f := 35) rfl ?_); refine goesL_ (some 30) rfl rfl Try.func35 (by kernel_rfl) rfl #[.int .i64 (wrap64 ((wrap64 (a1 + 1)) + t235))] rfl (by (try simp only [List.map_toArray, List.map_cons, List.map_nil]); first | done | rfl | (simp only [List.length_drop, List.length_take]; rfl)) ?_; (with_reducible refine (spec_l11Pad.calls k (wrap64 ((wrap64 (a1 + 1)) + t235)) t244 _ A14.out).mono ?_); rintro e w' ⟨rfl, ⟨nd, rfl⟩⟩; refine ⟨_, rfl, ?_⟩) | ((with_reducible refine gate_callee (f := 31) rfl ?_); refine goesL_ (some 36) rfl rfl Try.func31 (by kernel_rfl) rfl #[.pointer (some ⟨g, 0, none⟩), .int .i64 (wrap64 ((wrap64 (a1 + 1)) + t235)), .int .i64 (wrap64 (a2 - 1))] rfl (by (try simp only [List.map_toArray, List.map_cons, List.map_nil]); first | done | rfl | (simp only [List.length_drop, List.length_take]; rfl)) ?_; (with_reducible refine (IH g s0_0 t242 t243 (wrap64 ((wrap64 (a1 + 1)) + t235)) (wrap64 (a2 - 1)) t245 t246 t247 w0 _ ?side1 ?side2 A16.out).mono ?_); (case side1 => repeat (first | (with_reducible first | exact HI0.out | apply IsS35.alloc | apply IsS35.drewN | apply IsS35.drew | apply IsS35.set_1 | apply IsS35.set_2) | exact HI0.out)); (case side2 => repeat (first | (with_reducible first | exact HB.out | apply below_alloc | apply pw_below_drewN | apply below_drew1 | refine below_set ?_ (IsS35.ge HI0.out)) | exact HB.out)); rintro e w24 ⟨rfl, hi, hb, hk⟩; refine ⟨_, rfl, ?_⟩; have n0_ := Aside0.mk (Kd.R_mono (Kd.R_keep (IsS35.apart (show IsS35 w0 _ g s0_0 t242 t243 from by repeat (first | (with_reducible first | exact HI0.out | apply IsS35.alloc | apply IsS35.drewN | apply IsS35.drew | apply IsS35.set_1 | apply IsS35.set_2) | exact HI0.out)) (by (with_reducible repeat (first | apply Kd.R_alloc | apply Kd.R_drewN | apply Kd.R_drew)); exact HO240.out) (by decide)) hk (fun _ h => h.2)) (fun _ h => h.1)); have n1_ := Aside0.mk (KeepBut.trans (by repeat (first | (with_reducible first | exact HK.out | apply KeepBut.set_ | apply keep_drewN | apply keep_drew | apply keep_alloc) | exact HK.out)) hk (.inl rfl)); have n2_ := Aside0.mk (hb); have n3_ := Aside0.mk (hi); clear HO240; clear HK; clear HB; clear HI0; have HO240 := n0_; have HK := n1_; have HB := n2_; have HI0 := n3_; clear n0_ n1_ n2_ n3_; (try clear hb); (try clear hb2); (try clear hk); (try clear hi)))
          go_ret
          exact ⟨by first | rfl | (simp [errW_none, errW_some] <;> rfl) | (simp [*, errW_none, errW_some] <;> rfl), by repeat (first | (with_reducible first | exact HI0.out | apply IsS35.alloc | apply IsS35.drewN | apply IsS35.drew | apply IsS35.set_1 | apply IsS35.set_2) | exact HI0.out), by repeat (first | (with_reducible first | exact HB.out | apply below_alloc | apply pw_below_drewN | apply below_drew1 | refine below_set ?_ (IsS35.ge HI0.out)) | exact HB.out), by repeat (first | (with_reducible first | exact HK.out | apply KeepBut.set_ | apply keep_drewN | apply keep_drew | apply keep_alloc) | exact HK.out)⟩
        · rw [if_neg c17] at H
          exact absurd H (by simp)
      · rw [if_neg c15] at H
        exact absurd H (by simp)
    · rw [if_neg c11] at H
      have c11b0 : decide (t229 < 4) = false := decide_eq_false c11
      clear c11
      by_cases c25 : t229 = 4
      · rw [if_pos c25] at H
        have c25b0 : (t229 == 4) = true := beq_iff_eq.mpr c25
        have c25b1 : (t229 != 4) = false := bne_eq_false_iff_eq.mpr c25
        clear c25
        replace H := Option.bind_eq_some_iff.mp H
        obtain ⟨t248, A260, H⟩ := H
        replace H : (if 1 + t248.size ≤ 9223372036854775807 then (if ((⟨#[10]⟩ : ByteArray) ++ t248).size + 4 ≤ 9223372036854775807 then ((spec_l11Pad.f k a1).bind fun t249 => (if (((⟨#[10]⟩ : ByteArray) ++ t248) ++ (⟨#[45, 32, 120, 10]⟩ : ByteArray)).size + t249.size ≤ 9223372036854775807 then (if ((((⟨#[10]⟩ : ByteArray) ++ t248) ++ (⟨#[45, 32, 120, 10]⟩ : ByteArray)) ++ t249).size + 2 ≤ 9223372036854775807 then ((spec_l11Leaf.f k s0_0 t230 t231).bind fun bt250 => (if (((((⟨#[10]⟩ : ByteArray) ++ t248) ++ (⟨#[45, 32, 120, 10]⟩ : ByteArray)) ++ t249) ++ (⟨#[45, 32]⟩ : ByteArray)).size + bt250.1.size ≤ 9223372036854775807 then (if ((((((⟨#[10]⟩ : ByteArray) ++ t248) ++ (⟨#[45, 32, 120, 10]⟩ : ByteArray)) ++ t249) ++ (⟨#[45, 32]⟩ : ByteArray)) ++ bt250.1).size + 1 ≤ 9223372036854775807 then (some (((((((⟨#[10]⟩ : ByteArray) ++ t248) ++ (⟨#[45, 32, 120, 10]⟩ : ByteArray)) ++ t249) ++ (⟨#[45, 32]⟩ : ByteArray)) ++ bt250.1) ++ (⟨#[10]⟩ : ByteArray), bt250.2.1, bt250.2.2)) else (none)) else (none))) else (none)) else (none))) else (none)) else (none)) = some (r1, r2, r3) := H
        have A26 := Aside0.mk A260
        clear A260
        by_cases c27 : 1 + t248.size ≤ 9223372036854775807
        · rw [if_pos c27] at H
          have c27b0 := eq_true c27
          have c27b1 : decide (1 + t248.size ≤ 9223372036854775807) = true := decide_eq_true c27
          try have c27b2 : (9223372036854775807 < 1 + t248.size) = False := eq_false (Nat.not_lt.2 c27)
          try (have c27b4 := c27b2; simp only [ByteArray.size_extract, Nat.min_self] at c27b4)
          by_cases c28 : ((⟨#[10]⟩ : ByteArray) ++ t248).size + 4 ≤ 9223372036854775807
          · rw [if_pos c28] at H
            have c28b0 := eq_true c28
            have c28b1 : decide (((⟨#[10]⟩ : ByteArray) ++ t248).size + 4 ≤ 9223372036854775807) = true := decide_eq_true c28
            try have c28b2 : (9223372036854775807 < ((⟨#[10]⟩ : ByteArray) ++ t248).size + 4) = False := eq_false (Nat.not_lt.2 c28)
            try have c28b5 : (9223372036854775807 < 1 + t248.size + 4) = False := by (have q := c28b2; simp only [ByteArray.size_append] at q; exact q)
            try (have c28b4 := c28b2; simp only [ByteArray.size_extract, Nat.min_self] at c28b4)
            replace H := Option.bind_eq_some_iff.mp H
            obtain ⟨t249, A290, H⟩ := H
            replace H : (if (((⟨#[10]⟩ : ByteArray) ++ t248) ++ (⟨#[45, 32, 120, 10]⟩ : ByteArray)).size + t249.size ≤ 9223372036854775807 then (if ((((⟨#[10]⟩ : ByteArray) ++ t248) ++ (⟨#[45, 32, 120, 10]⟩ : ByteArray)) ++ t249).size + 2 ≤ 9223372036854775807 then ((spec_l11Leaf.f k s0_0 t230 t231).bind fun bt250 => (if (((((⟨#[10]⟩ : ByteArray) ++ t248) ++ (⟨#[45, 32, 120, 10]⟩ : ByteArray)) ++ t249) ++ (⟨#[45, 32]⟩ : ByteArray)).size + bt250.1.size ≤ 9223372036854775807 then (if ((((((⟨#[10]⟩ : ByteArray) ++ t248) ++ (⟨#[45, 32, 120, 10]⟩ : ByteArray)) ++ t249) ++ (⟨#[45, 32]⟩ : ByteArray)) ++ bt250.1).size + 1 ≤ 9223372036854775807 then (some (((((((⟨#[10]⟩ : ByteArray) ++ t248) ++ (⟨#[45, 32, 120, 10]⟩ : ByteArray)) ++ t249) ++ (⟨#[45, 32]⟩ : ByteArray)) ++ bt250.1) ++ (⟨#[10]⟩ : ByteArray), bt250.2.1, bt250.2.2)) else (none)) else (none))) else (none)) else (none)) = some (r1, r2, r3) := H
            have A29 := Aside0.mk A290
            clear A290
            by_cases c30 : (((⟨#[10]⟩ : ByteArray) ++ t248) ++ (⟨#[45, 32, 120, 10]⟩ : ByteArray)).size + t249.size ≤ 9223372036854775807
            · rw [if_pos c30] at H
              have c30b0 := eq_true c30
              have c30b1 : decide ((((⟨#[10]⟩ : ByteArray) ++ t248) ++ (⟨#[45, 32, 120, 10]⟩ : ByteArray)).size + t249.size ≤ 9223372036854775807) = true := decide_eq_true c30
              try have c30b2 : (9223372036854775807 < (((⟨#[10]⟩ : ByteArray) ++ t248) ++ (⟨#[45, 32, 120, 10]⟩ : ByteArray)).size + t249.size) = False := eq_false (Nat.not_lt.2 c30)
              try have c30b5 : (9223372036854775807 < 1 + t248.size + 4 + t249.size) = False := by (have q := c30b2; simp only [ByteArray.size_append] at q; exact q)
              try (have c30b4 := c30b2; simp only [ByteArray.size_extract, Nat.min_self] at c30b4)
              by_cases c31 : ((((⟨#[10]⟩ : ByteArray) ++ t248) ++ (⟨#[45, 32, 120, 10]⟩ : ByteArray)) ++ t249).size + 2 ≤ 9223372036854775807
              · rw [if_pos c31] at H
                have c31b0 := eq_true c31
                have c31b1 : decide (((((⟨#[10]⟩ : ByteArray) ++ t248) ++ (⟨#[45, 32, 120, 10]⟩ : ByteArray)) ++ t249).size + 2 ≤ 9223372036854775807) = true := decide_eq_true c31
                try have c31b2 : (9223372036854775807 < ((((⟨#[10]⟩ : ByteArray) ++ t248) ++ (⟨#[45, 32, 120, 10]⟩ : ByteArray)) ++ t249).size + 2) = False := eq_false (Nat.not_lt.2 c31)
                try have c31b5 : (9223372036854775807 < 1 + t248.size + 4 + t249.size + 2) = False := by (have q := c31b2; simp only [ByteArray.size_append] at q; exact q)
                try (have c31b4 := c31b2; simp only [ByteArray.size_extract, Nat.min_self] at c31b4)
                replace H := Option.bind_eq_some_iff.mp H
                obtain ⟨⟨t250, t251, t252⟩, A320, H⟩ := H
                replace H : (if (((((⟨#[10]⟩ : ByteArray) ++ t248) ++ (⟨#[45, 32, 120, 10]⟩ : ByteArray)) ++ t249) ++ (⟨#[45, 32]⟩ : ByteArray)).size + t250.size ≤ 9223372036854775807 then (if ((((((⟨#[10]⟩ : ByteArray) ++ t248) ++ (⟨#[45, 32, 120, 10]⟩ : ByteArray)) ++ t249) ++ (⟨#[45, 32]⟩ : ByteArray)) ++ t250).size + 1 ≤ 9223372036854775807 then (some (((((((⟨#[10]⟩ : ByteArray) ++ t248) ++ (⟨#[45, 32, 120, 10]⟩ : ByteArray)) ++ t249) ++ (⟨#[45, 32]⟩ : ByteArray)) ++ t250) ++ (⟨#[10]⟩ : ByteArray), t251, t252)) else (none)) else (none)) = some (r1, r2, r3) := H
                have A32 := Aside0.mk A320
                clear A320
                by_cases c33 : (((((⟨#[10]⟩ : ByteArray) ++ t248) ++ (⟨#[45, 32, 120, 10]⟩ : ByteArray)) ++ t249) ++ (⟨#[45, 32]⟩ : ByteArray)).size + t250.size ≤ 9223372036854775807
                · rw [if_pos c33] at H
                  have c33b0 := eq_true c33
                  have c33b1 : decide ((((((⟨#[10]⟩ : ByteArray) ++ t248) ++ (⟨#[45, 32, 120, 10]⟩ : ByteArray)) ++ t249) ++ (⟨#[45, 32]⟩ : ByteArray)).size + t250.size ≤ 9223372036854775807) = true := decide_eq_true c33
                  try have c33b2 : (9223372036854775807 < (((((⟨#[10]⟩ : ByteArray) ++ t248) ++ (⟨#[45, 32, 120, 10]⟩ : ByteArray)) ++ t249) ++ (⟨#[45, 32]⟩ : ByteArray)).size + t250.size) = False := eq_false (Nat.not_lt.2 c33)
                  try have c33b5 : (9223372036854775807 < 1 + t248.size + 4 + t249.size + 2 + t250.size) = False := by (have q := c33b2; simp only [ByteArray.size_append] at q; exact q)
                  try (have c33b4 := c33b2; simp only [ByteArray.size_extract, Nat.min_self] at c33b4)
                  by_cases c34 : ((((((⟨#[10]⟩ : ByteArray) ++ t248) ++ (⟨#[45, 32, 120, 10]⟩ : ByteArray)) ++ t249) ++ (⟨#[45, 32]⟩ : ByteArray)) ++ t250).size + 1 ≤ 9223372036854775807
                  · rw [if_pos c34] at H
                    have c34b0 := eq_true c34
                    have c34b1 : decide (((((((⟨#[10]⟩ : ByteArray) ++ t248) ++ (⟨#[45, 32, 120, 10]⟩ : ByteArray)) ++ t249) ++ (⟨#[45, 32]⟩ : ByteArray)) ++ t250).size + 1 ≤ 9223372036854775807) = true := decide_eq_true c34
                    try have c34b2 : (9223372036854775807 < ((((((⟨#[10]⟩ : ByteArray) ++ t248) ++ (⟨#[45, 32, 120, 10]⟩ : ByteArray)) ++ t249) ++ (⟨#[45, 32]⟩ : ByteArray)) ++ t250).size + 1) = False := eq_false (Nat.not_lt.2 c34)
                    try have c34b5 : (9223372036854775807 < 1 + t248.size + 4 + t249.size + 2 + t250.size + 1) = False := by (have q := c34b2; simp only [ByteArray.size_append] at q; exact q)
                    try (have c34b4 := c34b2; simp only [ByteArray.size_extract, Nat.min_self] at c34b4)
                    simp only [Option.some.injEq, Prod.mk.injEq] at H
                    obtain ⟨rfl, rfl, rfl⟩ := H
                    go_enter Try.func36, Try.ntmps36
                    go_wp2_with (first | ((with_reducible refine gate_callee (f := 16) rfl ?_); refine goesL_ (some 10) rfl rfl Try.func16 (by kernel_rfl) rfl #[.pointer (some ⟨g, 0, none⟩), .int .i64 6] rfl (by (try simp only [List.map_toArray, List.map_cons, List.map_nil]); first | done | rfl | (simp only [List.length_drop, List.length_take]; rfl)) ?_; (with_reducible refine (spec_l01Below.calls g s0_0 s0_1 s0_2 6 t229 t230 t231 w0 _ ?side1 ?side2 A4.out).mono ?_); (case side1 => repeat (first | (with_reducible first | exact HI0.out | apply IsS35.alloc | apply IsS35.drewN | apply IsS35.drew | apply IsS35.set_1 | apply IsS35.set_2) | exact HI0.out)); (case side2 => repeat (first | (with_reducible first | exact HB.out | apply below_alloc | apply pw_below_drewN | apply below_drew1 | refine below_set ?_ (IsS35.ge HI0.out)) | exact HB.out)); rintro e w35 ⟨rfl, hi, hb, hk⟩; refine ⟨_, rfl, ?_⟩; have n0_ := Aside0.mk (KeepBut.trans (by repeat (first | (with_reducible first | exact HK.out | apply KeepBut.set_ | apply keep_drewN | apply keep_drew | apply keep_alloc) | exact HK.out)) hk (.inl rfl)); have n1_ := Aside0.mk (hb); have n2_ := Aside0.mk (hi); clear HK; clear HB; clear HI0; have HK := n0_; have HB := n1_; have HI0 := n2_; clear n0_ n1_ n2_; (try clear hb); (try clear hb2); (try clear hk); (try clear hi)) | ((with_reducible refine gate_callee (f := 35) rfl ?_); refine goesL_ (some 42) rfl rfl Try.func35 (by kernel_rfl) rfl #[.int .i64 a1] rfl (by (try simp only [List.map_toArray, List.map_cons, List.map_nil]); first | done | rfl | (simp only [List.length_drop, List.length_take]; rfl)) ?_; (with_reducible refine (spec_l11Pad.calls k a1 t248 _ A26.out).mono ?_); rintro e w' ⟨rfl, ⟨nd, rfl⟩⟩; refine ⟨_, rfl, ?_⟩) | ((with_reducible refine gate_callee (f := 35) rfl ?_); refine goesL_ (some 46) rfl rfl Try.func35 (by kernel_rfl) rfl #[.int .i64 a1] rfl (by (try simp only [List.map_toArray, List.map_cons, List.map_nil]); first | done | rfl | (simp only [List.length_drop, List.length_take]; rfl)) ?_; (with_reducible refine (spec_l11Pad.calls k a1 t249 _ A29.out).mono ?_); rintro e w' ⟨rfl, ⟨nd, rfl⟩⟩; refine ⟨_, rfl, ?_⟩) | ((with_reducible refine gate_callee (f := 32) rfl ?_); refine goesL_ (some 50) rfl rfl Try.func32 (by kernel_rfl) rfl #[.pointer (some ⟨g, 0, none⟩)] rfl (by (try simp only [List.map_toArray, List.map_cons, List.map_nil]); first | done | rfl | (simp only [List.length_drop, List.length_take]; rfl)) ?_; (with_reducible refine (spec_l11Leaf.calls k g s0_0 t230 t231 t250 t251 t252 w0 _ ?side1 ?side2 A32.out).mono ?_); (case side1 => repeat (first | (with_reducible first | exact HI0.out | apply IsS35.alloc | apply IsS35.drewN | apply IsS35.drew | apply IsS35.set_1 | apply IsS35.set_2) | exact HI0.out)); (case side2 => repeat (first | (with_reducible first | exact HB.out | apply below_alloc | apply pw_below_drewN | apply below_drew1 | refine below_set ?_ (IsS35.ge HI0.out)) | exact HB.out)); rintro e w36 ⟨rfl, hi, hb, hk⟩; refine ⟨_, rfl, ?_⟩; have n0_ := Aside0.mk (KeepBut.trans (by repeat (first | (with_reducible first | exact HK.out | apply KeepBut.set_ | apply keep_drewN | apply keep_drew | apply keep_alloc) | exact HK.out)) hk (.inl rfl)); have n1_ := Aside0.mk (hb); have n2_ := Aside0.mk (hi); clear HK; clear HB; clear HI0; have HK := n0_; have HB := n1_; have HI0 := n2_; clear n0_ n1_ n2_; (try clear hb); (try clear hb2); (try clear hk); (try clear hi)))
                    go_ret
                    exact ⟨by first | rfl | (simp [errW_none, errW_some] <;> rfl) | (simp [*, errW_none, errW_some] <;> rfl), by repeat (first | (with_reducible first | exact HI0.out | apply IsS35.alloc | apply IsS35.drewN | apply IsS35.drew | apply IsS35.set_1 | apply IsS35.set_2) | exact HI0.out), by repeat (first | (with_reducible first | exact HB.out | apply below_alloc | apply pw_below_drewN | apply below_drew1 | refine below_set ?_ (IsS35.ge HI0.out)) | exact HB.out), by repeat (first | (with_reducible first | exact HK.out | apply KeepBut.set_ | apply keep_drewN | apply keep_drew | apply keep_alloc) | exact HK.out)⟩
                  · rw [if_neg c34] at H
                    exact absurd H (by simp)
                · rw [if_neg c33] at H
                  exact absurd H (by simp)
              · rw [if_neg c31] at H
                exact absurd H (by simp)
            · rw [if_neg c30] at H
              exact absurd H (by simp)
          · rw [if_neg c28] at H
            exact absurd H (by simp)
        · rw [if_neg c27] at H
          exact absurd H (by simp)
      · rw [if_neg c25] at H
        have c25b0 : (t229 == 4) = false := beq_eq_false_iff_ne.mpr c25
        have c25b1 : (t229 != 4) = true := bne_iff_ne.mpr c25
        replace H := Option.bind_eq_some_iff.mp H
        obtain ⟨t253, A370, H⟩ := H
        replace H : (if 3 + t253.size ≤ 9223372036854775807 then (if ((⟨#[32, 124, 10]⟩ : ByteArray) ++ t253).size + 4 ≤ 9223372036854775807 then (some (((⟨#[32, 124, 10]⟩ : ByteArray) ++ t253) ++ (⟨#[32, 32, 116, 10]⟩ : ByteArray), t230, t231)) else (none)) else (none)) = some (r1, r2, r3) := H
        have A37 := Aside0.mk A370
        clear A370
        by_cases c38 : 3 + t253.size ≤ 9223372036854775807
        · rw [if_pos c38] at H
          have c38b0 := eq_true c38
          have c38b1 : decide (3 + t253.size ≤ 9223372036854775807) = true := decide_eq_true c38
          try have c38b2 : (9223372036854775807 < 3 + t253.size) = False := eq_false (Nat.not_lt.2 c38)
          try (have c38b4 := c38b2; simp only [ByteArray.size_extract, Nat.min_self] at c38b4)
          by_cases c39 : ((⟨#[32, 124, 10]⟩ : ByteArray) ++ t253).size + 4 ≤ 9223372036854775807
          · rw [if_pos c39] at H
            have c39b0 := eq_true c39
            have c39b1 : decide (((⟨#[32, 124, 10]⟩ : ByteArray) ++ t253).size + 4 ≤ 9223372036854775807) = true := decide_eq_true c39
            try have c39b2 : (9223372036854775807 < ((⟨#[32, 124, 10]⟩ : ByteArray) ++ t253).size + 4) = False := eq_false (Nat.not_lt.2 c39)
            try have c39b5 : (9223372036854775807 < 3 + t253.size + 4) = False := by (have q := c39b2; simp only [ByteArray.size_append] at q; exact q)
            try (have c39b4 := c39b2; simp only [ByteArray.size_extract, Nat.min_self] at c39b4)
            simp only [Option.some.injEq, Prod.mk.injEq] at H
            obtain ⟨rfl, rfl, rfl⟩ := H
            go_enter Try.func36, Try.ntmps36
            go_wp2_with (first | ((with_reducible refine gate_callee (f := 16) rfl ?_); refine goesL_ (some 10) rfl rfl Try.func16 (by kernel_rfl) rfl #[.pointer (some ⟨g, 0, none⟩), .int .i64 6] rfl (by (try simp only [List.map_toArray, List.map_cons, List.map_nil]); first | done | rfl | (simp only [List.length_drop, List.length_take]; rfl)) ?_; (with_reducible refine (spec_l01Below.calls g s0_0 s0_1 s0_2 6 t229 t230 t231 w0 _ ?side1 ?side2 A4.out).mono ?_); (case side1 => repeat (first | (with_reducible first | exact HI0.out | apply IsS35.alloc | apply IsS35.drewN | apply IsS35.drew | apply IsS35.set_1 | apply IsS35.set_2) | exact HI0.out)); (case side2 => repeat (first | (with_reducible first | exact HB.out | apply below_alloc | apply pw_below_drewN | apply below_drew1 | refine below_set ?_ (IsS35.ge HI0.out)) | exact HB.out)); rintro e w40 ⟨rfl, hi, hb, hk⟩; refine ⟨_, rfl, ?_⟩; have n0_ := Aside0.mk (KeepBut.trans (by repeat (first | (with_reducible first | exact HK.out | apply KeepBut.set_ | apply keep_drewN | apply keep_drew | apply keep_alloc) | exact HK.out)) hk (.inl rfl)); have n1_ := Aside0.mk (hb); have n2_ := Aside0.mk (hi); clear HK; clear HB; clear HI0; have HK := n0_; have HB := n1_; have HI0 := n2_; clear n0_ n1_ n2_; (try clear hb); (try clear hb2); (try clear hk); (try clear hi)) | ((with_reducible refine gate_callee (f := 35) rfl ?_); refine goesL_ (some 54) rfl rfl Try.func35 (by kernel_rfl) rfl #[.int .i64 a1] rfl (by (try simp only [List.map_toArray, List.map_cons, List.map_nil]); first | done | rfl | (simp only [List.length_drop, List.length_take]; rfl)) ?_; (with_reducible refine (spec_l11Pad.calls k a1 t253 _ A37.out).mono ?_); rintro e w' ⟨rfl, ⟨nd, rfl⟩⟩; refine ⟨_, rfl, ?_⟩))
            go_ret
            exact ⟨by first | rfl | (simp [errW_none, errW_some] <;> rfl) | (simp [*, errW_none, errW_some] <;> rfl), by repeat (first | (with_reducible first | exact HI0.out | apply IsS35.alloc | apply IsS35.drewN | apply IsS35.drew | apply IsS35.set_1 | apply IsS35.set_2) | exact HI0.out), by repeat (first | (with_reducible first | exact HB.out | apply below_alloc | apply pw_below_drewN | apply below_drew1 | refine below_set ?_ (IsS35.ge HI0.out)) | exact HB.out), by repeat (first | (with_reducible first | exact HK.out | apply KeepBut.set_ | apply keep_drewN | apply keep_drew | apply keep_alloc) | exact HK.out)⟩
          · rw [if_neg c39] at H
            exact absurd H (by simp)
        · rw [if_neg c38] at H
          exact absurd H (by simp)

end Go.Proofs.Ytmkfodlmddbdeaa.PFnLines
