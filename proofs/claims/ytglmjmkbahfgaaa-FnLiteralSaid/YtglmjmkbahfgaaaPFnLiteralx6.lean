-- Written by a program of this session, out of the translation.
import Derived.Test.YtglmjmkbahfgaaaPFnLiteralx0
import Derived.Test.YtglmjmkbahfgaaaPFnLiteralx1
import Derived.Test.YtglmjmkbahfgaaaPFnLiteralx2
import Derived.Test.YtglmjmkbahfgaaaPFnLiteralx3
import Derived.Test.YtglmjmkbahfgaaaPFnLiteralx4
import Derived.Test.YtglmjmkbahfgaaaPFnLiteralx5
namespace Go.Proofs.Ytglmjmkbahfgaaa.PFnLiteral
open Go.RowKit Go.Proofs.YtglmjmkbahfgaaaW.PrintWords Go.Proofs.YtglmjmkbahfgaaaW.PrintLast Go.Proofs.YtglmjmkbahfgaaaW.PrintMore
attribute [local go_sem] max2_int min2_int max_two min_two max_three min_three max_four min_four   -- for this text's walks alone
set_option linter.unusedVariables false
set_option linter.unusedSimpArgs false

/-! ### impl_LiteralAt: function 55 -/
mutual
def impl_LiteralAt.j1 : Nat → ByteArray → Int → Int → Int → Int → Int → Option (ByteArray × Int × Int)
  | 0, _, _, _, _, _, _ => none
  | k + 1, x0, x1, x10, x13, x14, x15 => impl_LiteralAt.l0 k x0 x1 x10 x13 x14 x15 (([] : List ByteArray))
def impl_LiteralAt.l0 : Nat → ByteArray → Int → Int → Int → Int → Int → List ByteArray → Option (ByteArray × Int × Int)
  | 0, _, _, _, _, _, _, _ => none
  | k + 1, x0, x1, x10, x13, x14, x15, x16 => if x13 < (x0.size : Int) then ((impl_MarkAt.f k x0 x13).bind fun t215 => (if t215 = 0 then ((impl_Lone.f k x0 x13).bind fun t216 => (if t216 = true then (impl_LiteralAt.j3 k x0 x1 x10 x13 x14 x15 x16 true) else ((impl_IndentAt.f k x0 x13).bind fun t217 => (impl_LiteralAt.j3 k x0 x1 x10 x13 x14 x15 x16 (decide (t217 ≥ x14)))))) else (impl_LiteralAt.j3 k x0 x1 x10 x13 x14 x15 x16 false))) else (impl_LiteralAt.j3 k x0 x1 x10 x13 x14 x15 x16 false)
def impl_LiteralAt.j3 : Nat → ByteArray → Int → Int → Int → Int → Int → List ByteArray → Bool → Option (ByteArray × Int × Int)
  | 0, _, _, _, _, _, _, _, _ => none
  | k + 1, x0, x1, x10, x13, x14, x15, x16, x80 => if x80 = true then (if x13 ≥ x15 then ((impl_Lone.f k x0 x13).bind fun t219 => (if t219 = true then ((impl_IndentAt.f k x0 x13).bind fun t220 => (impl_LiteralAt.j4 k x0 x1 x10 x13 x14 x15 x16 (⟨#[]⟩ : ByteArray) (decide (t220 > x14)))) else (impl_LiteralAt.j4 k x0 x1 x10 x13 x14 x15 x16 (⟨#[]⟩ : ByteArray) true))) else (impl_LiteralAt.j4 k x0 x1 x10 x13 x14 x15 x16 (⟨#[]⟩ : ByteArray) false)) else (if 0 ≤ x1 then (if x1 < (x0.size : Int) then ((impl_BlockText.f k x16 ((bt x0 x1) == 62) x10).bind fun t218 => (some (t218, x13, 0))) else (none)) else (none))
def impl_LiteralAt.j4 : Nat → ByteArray → Int → Int → Int → Int → Int → List ByteArray → ByteArray → Bool → Option (ByteArray × Int × Int)
  | 0, _, _, _, _, _, _, _, _, _ => none
  | k + 1, x0, x1, x10, x13, x14, x15, x16, x17, x96 => if x96 = true then ((impl_EndAt.f x0 x13).bind fun t221 => (if 0 ≤ (wrap64 (x13 + x14)) then (if (wrap64 (x13 + x14)) ≤ t221 then (if t221 ≤ (x0.size : Int) then (if x16.length < 8796093022208 then ((impl_EndAt.f x0 x13).bind fun t225 => ((impl_behindLine.f x0 t225).bind fun t226 => (impl_LiteralAt.l0 k x0 x1 x10 t226 x14 x15 (x16 ++ [x0.extract ((wrap64 (x13 + x14)) : Int).toNat (t221 : Int).toNat])))) else (none)) else (none)) else (none)) else (none))) else (if x16.length < 8796093022208 then ((impl_EndAt.f x0 x13).bind fun t230 => ((impl_behindLine.f x0 t230).bind fun t231 => (impl_LiteralAt.l0 k x0 x1 x10 t231 x14 x15 (x16 ++ [x17])))) else (none))
def impl_LiteralAt.j0 : Nat → ByteArray → Int → Int → Int → Int → Int → Int → Int → Bool → Option (ByteArray × Int × Int)
  | 0, _, _, _, _, _, _, _, _, _ => none
  | k + 1, x0, x1, x2, x9, x10, x13, x14, x15, x37 => if x37 = true then (impl_LiteralAt.j1 k x0 x1 x10 x13 (wrap64 ((mx x2 0) + x9)) x15) else (if x9 = 0 then ((impl_literalCol.f k x0 x13 x2).bind fun bt210 => (impl_LiteralAt.j1 k x0 x1 x10 x13 bt210.1 bt210.2)) else (impl_LiteralAt.j1 k x0 x1 x10 x13 x14 x15))
end
def impl_LiteralAt.f (k : Nat) (a0 : ByteArray) (a1 : Int) (a2 : Int) : Option (ByteArray × Int × Int) := (impl_spot.f a0 a1).bind fun t204 => ((impl_HeadAt.f k a0 t204).bind fun bt205 => (if bt205.2.2.2 = 0 then ((impl_behindLine.f a0 bt205.2.2.1).bind fun t209 => (if bt205.1 > 0 then (impl_LiteralAt.j0 k a0 t204 a2 bt205.1 bt205.2.1 t209 60000 t209 (decide (a2 ≤ 60000))) else (impl_LiteralAt.j0 k a0 t204 a2 bt205.1 bt205.2.1 t209 60000 t209 false))) else (some ((⟨#[]⟩ : ByteArray), bt205.2.2.1, bt205.2.2.2))))
theorem impl_LiteralAt.mono_l : ∀ k, (∀ y0 y1 y2 y3 y4 y5, LeO (impl_LiteralAt.j1 k y0 y1 y2 y3 y4 y5) (impl_LiteralAt.j1 (k + 1) y0 y1 y2 y3 y4 y5)) ∧ (∀ y0 y1 y2 y3 y4 y5 y6, LeO (impl_LiteralAt.l0 k y0 y1 y2 y3 y4 y5 y6) (impl_LiteralAt.l0 (k + 1) y0 y1 y2 y3 y4 y5 y6)) ∧ (∀ y0 y1 y2 y3 y4 y5 y6 y7, LeO (impl_LiteralAt.j3 k y0 y1 y2 y3 y4 y5 y6 y7) (impl_LiteralAt.j3 (k + 1) y0 y1 y2 y3 y4 y5 y6 y7)) ∧ (∀ y0 y1 y2 y3 y4 y5 y6 y7 y8, LeO (impl_LiteralAt.j4 k y0 y1 y2 y3 y4 y5 y6 y7 y8) (impl_LiteralAt.j4 (k + 1) y0 y1 y2 y3 y4 y5 y6 y7 y8)) ∧ (∀ y0 y1 y2 y3 y4 y5 y6 y7 y8, LeO (impl_LiteralAt.j0 k y0 y1 y2 y3 y4 y5 y6 y7 y8) (impl_LiteralAt.j0 (k + 1) y0 y1 y2 y3 y4 y5 y6 y7 y8))
  | 0 => ⟨fun _ _ _ _ _ _ r h => by simp [impl_LiteralAt.j1] at h, fun _ _ _ _ _ _ _ r h => by simp [impl_LiteralAt.l0] at h, fun _ _ _ _ _ _ _ _ r h => by simp [impl_LiteralAt.j3] at h, fun _ _ _ _ _ _ _ _ _ r h => by simp [impl_LiteralAt.j4] at h, fun _ _ _ _ _ _ _ _ _ r h => by simp [impl_LiteralAt.j0] at h⟩
  | k + 1 => by
    obtain ⟨ih0, ih1, ih2, ih3, ih4⟩ := impl_LiteralAt.mono_l k
    refine ⟨?_, ?_, ?_, ?_, ?_⟩
    · intro y0 y1 y2 y3 y4 y5
      unfold impl_LiteralAt.j1
      repeat' first
      | (with_reducible exact ih0 _ _ _ _ _ _)
      | (with_reducible exact ih1 _ _ _ _ _ _ _)
      | (with_reducible exact ih2 _ _ _ _ _ _ _ _)
      | (with_reducible exact ih3 _ _ _ _ _ _ _ _ _)
      | (with_reducible exact ih4 _ _ _ _ _ _ _ _ _)
      | (with_reducible exact impl_BlockText.mono _ _ _ _)
      | (with_reducible exact impl_HeadAt.mono _ _ _)
      | (with_reducible exact impl_IndentAt.mono _ _ _)
      | (with_reducible exact impl_Lone.mono _ _ _)
      | (with_reducible exact impl_MarkAt.mono _ _ _)
      | (with_reducible exact impl_literalCol.mono _ _ _ _)
      | (with_reducible exact LeO.refl _)
      | (with_reducible exact LeO.none _)
      | (with_reducible refine LeO.ite ?_ ?_)
      | (with_reducible refine LeO.bind ?_ (fun _ => ?_))
      | exact ih0 _ _ _ _ _ _
      | exact ih1 _ _ _ _ _ _ _
      | exact ih2 _ _ _ _ _ _ _ _
      | exact ih3 _ _ _ _ _ _ _ _ _
      | exact ih4 _ _ _ _ _ _ _ _ _
      | exact impl_BlockText.mono _ _ _ _
      | exact impl_HeadAt.mono _ _ _
      | exact impl_IndentAt.mono _ _ _
      | exact impl_Lone.mono _ _ _
      | exact impl_MarkAt.mono _ _ _
      | exact impl_literalCol.mono _ _ _ _
      | exact LeO.none _
      | refine LeO.ite ?_ ?_
      | refine LeO.bind ?_ (fun _ => ?_)
    · intro y0 y1 y2 y3 y4 y5 y6
      unfold impl_LiteralAt.l0
      repeat' first
      | (with_reducible exact ih0 _ _ _ _ _ _)
      | (with_reducible exact ih1 _ _ _ _ _ _ _)
      | (with_reducible exact ih2 _ _ _ _ _ _ _ _)
      | (with_reducible exact ih3 _ _ _ _ _ _ _ _ _)
      | (with_reducible exact ih4 _ _ _ _ _ _ _ _ _)
      | (with_reducible exact impl_BlockText.mono _ _ _ _)
      | (with_reducible exact impl_HeadAt.mono _ _ _)
      | (with_reducible exact impl_IndentAt.mono _ _ _)
      | (with_reducible exact impl_Lone.mono _ _ _)
      | (with_reducible exact impl_MarkAt.mono _ _ _)
      | (with_reducible exact impl_literalCol.mono _ _ _ _)
      | (with_reducible exact LeO.refl _)
      | (with_reducible exact LeO.none _)
      | (with_reducible refine LeO.ite ?_ ?_)
      | (with_reducible refine LeO.bind ?_ (fun _ => ?_))
      | exact ih0 _ _ _ _ _ _
      | exact ih1 _ _ _ _ _ _ _
      | exact ih2 _ _ _ _ _ _ _ _
      | exact ih3 _ _ _ _ _ _ _ _ _
      | exact ih4 _ _ _ _ _ _ _ _ _
      | exact impl_BlockText.mono _ _ _ _
      | exact impl_HeadAt.mono _ _ _
      | exact impl_IndentAt.mono _ _ _
      | exact impl_Lone.mono _ _ _
      | exact impl_MarkAt.mono _ _ _
      | exact impl_literalCol.mono _ _ _ _
      | exact LeO.none _
      | refine LeO.ite ?_ ?_
      | refine LeO.bind ?_ (fun _ => ?_)
    · intro y0 y1 y2 y3 y4 y5 y6 y7
      unfold impl_LiteralAt.j3
      repeat' first
      | (with_reducible exact ih0 _ _ _ _ _ _)
      | (with_reducible exact ih1 _ _ _ _ _ _ _)
      | (with_reducible exact ih2 _ _ _ _ _ _ _ _)
      | (with_reducible exact ih3 _ _ _ _ _ _ _ _ _)
      | (with_reducible exact ih4 _ _ _ _ _ _ _ _ _)
      | (with_reducible exact impl_BlockText.mono _ _ _ _)
      | (with_reducible exact impl_HeadAt.mono _ _ _)
      | (with_reducible exact impl_IndentAt.mono _ _ _)
      | (with_reducible exact impl_Lone.mono _ _ _)
      | (with_reducible exact impl_MarkAt.mono _ _ _)
      | (with_reducible exact impl_literalCol.mono _ _ _ _)
      | (with_reducible exact LeO.refl _)
      | (with_reducible exact LeO.none _)
      | (with_reducible refine LeO.ite ?_ ?_)
      | (with_reducible refine LeO.bind ?_ (fun _ => ?_))
      | exact ih0 _ _ _ _ _ _
      | exact ih1 _ _ _ _ _ _ _
      | exact ih2 _ _ _ _ _ _ _ _
      | exact ih3 _ _ _ _ _ _ _ _ _
      | exact ih4 _ _ _ _ _ _ _ _ _
      | exact impl_BlockText.mono _ _ _ _
      | exact impl_HeadAt.mono _ _ _
      | exact impl_IndentAt.mono _ _ _
      | exact impl_Lone.mono _ _ _
      | exact impl_MarkAt.mono _ _ _
      | exact impl_literalCol.mono _ _ _ _
      | exact LeO.none _
      | refine LeO.ite ?_ ?_
      | refine LeO.bind ?_ (fun _ => ?_)
    · intro y0 y1 y2 y3 y4 y5 y6 y7 y8
      unfold impl_LiteralAt.j4
      repeat' first
      | (with_reducible exact ih0 _ _ _ _ _ _)
      | (with_reducible exact ih1 _ _ _ _ _ _ _)
      | (with_reducible exact ih2 _ _ _ _ _ _ _ _)
      | (with_reducible exact ih3 _ _ _ _ _ _ _ _ _)
      | (with_reducible exact ih4 _ _ _ _ _ _ _ _ _)
      | (with_reducible exact impl_BlockText.mono _ _ _ _)
      | (with_reducible exact impl_HeadAt.mono _ _ _)
      | (with_reducible exact impl_IndentAt.mono _ _ _)
      | (with_reducible exact impl_Lone.mono _ _ _)
      | (with_reducible exact impl_MarkAt.mono _ _ _)
      | (with_reducible exact impl_literalCol.mono _ _ _ _)
      | (with_reducible exact LeO.refl _)
      | (with_reducible exact LeO.none _)
      | (with_reducible refine LeO.ite ?_ ?_)
      | (with_reducible refine LeO.bind ?_ (fun _ => ?_))
      | exact ih0 _ _ _ _ _ _
      | exact ih1 _ _ _ _ _ _ _
      | exact ih2 _ _ _ _ _ _ _ _
      | exact ih3 _ _ _ _ _ _ _ _ _
      | exact ih4 _ _ _ _ _ _ _ _ _
      | exact impl_BlockText.mono _ _ _ _
      | exact impl_HeadAt.mono _ _ _
      | exact impl_IndentAt.mono _ _ _
      | exact impl_Lone.mono _ _ _
      | exact impl_MarkAt.mono _ _ _
      | exact impl_literalCol.mono _ _ _ _
      | exact LeO.none _
      | refine LeO.ite ?_ ?_
      | refine LeO.bind ?_ (fun _ => ?_)
    · intro y0 y1 y2 y3 y4 y5 y6 y7 y8
      unfold impl_LiteralAt.j0
      repeat' first
      | (with_reducible exact ih0 _ _ _ _ _ _)
      | (with_reducible exact ih1 _ _ _ _ _ _ _)
      | (with_reducible exact ih2 _ _ _ _ _ _ _ _)
      | (with_reducible exact ih3 _ _ _ _ _ _ _ _ _)
      | (with_reducible exact ih4 _ _ _ _ _ _ _ _ _)
      | (with_reducible exact impl_BlockText.mono _ _ _ _)
      | (with_reducible exact impl_HeadAt.mono _ _ _)
      | (with_reducible exact impl_IndentAt.mono _ _ _)
      | (with_reducible exact impl_Lone.mono _ _ _)
      | (with_reducible exact impl_MarkAt.mono _ _ _)
      | (with_reducible exact impl_literalCol.mono _ _ _ _)
      | (with_reducible exact LeO.refl _)
      | (with_reducible exact LeO.none _)
      | (with_reducible refine LeO.ite ?_ ?_)
      | (with_reducible refine LeO.bind ?_ (fun _ => ?_))
      | exact ih0 _ _ _ _ _ _
      | exact ih1 _ _ _ _ _ _ _
      | exact ih2 _ _ _ _ _ _ _ _
      | exact ih3 _ _ _ _ _ _ _ _ _
      | exact ih4 _ _ _ _ _ _ _ _ _
      | exact impl_BlockText.mono _ _ _ _
      | exact impl_HeadAt.mono _ _ _
      | exact impl_IndentAt.mono _ _ _
      | exact impl_Lone.mono _ _ _
      | exact impl_MarkAt.mono _ _ _
      | exact impl_literalCol.mono _ _ _ _
      | exact LeO.none _
      | refine LeO.ite ?_ ?_
      | refine LeO.bind ?_ (fun _ => ?_)
theorem impl_LiteralAt.mono : ∀ a0 a1 a2 k, LeO (impl_LiteralAt.f k a0 a1 a2) (impl_LiteralAt.f (k + 1) a0 a1 a2) := by
  intro a0 a1 a2 k
  obtain ⟨ih0, ih1, ih2, ih3, ih4⟩ := impl_LiteralAt.mono_l k
  unfold impl_LiteralAt.f
  repeat' first
      | (with_reducible exact ih0 _ _ _ _ _ _)
      | (with_reducible exact ih1 _ _ _ _ _ _ _)
      | (with_reducible exact ih2 _ _ _ _ _ _ _ _)
      | (with_reducible exact ih3 _ _ _ _ _ _ _ _ _)
      | (with_reducible exact ih4 _ _ _ _ _ _ _ _ _)
      | (with_reducible exact impl_BlockText.mono _ _ _ _)
      | (with_reducible exact impl_HeadAt.mono _ _ _)
      | (with_reducible exact impl_IndentAt.mono _ _ _)
      | (with_reducible exact impl_Lone.mono _ _ _)
      | (with_reducible exact impl_MarkAt.mono _ _ _)
      | (with_reducible exact impl_literalCol.mono _ _ _ _)
      | (with_reducible exact LeO.refl _)
      | (with_reducible exact LeO.none _)
      | (with_reducible refine LeO.ite ?_ ?_)
      | (with_reducible refine LeO.bind ?_ (fun _ => ?_))
      | exact ih0 _ _ _ _ _ _
      | exact ih1 _ _ _ _ _ _ _
      | exact ih2 _ _ _ _ _ _ _ _
      | exact ih3 _ _ _ _ _ _ _ _ _
      | exact ih4 _ _ _ _ _ _ _ _ _
      | exact impl_BlockText.mono _ _ _ _
      | exact impl_HeadAt.mono _ _ _
      | exact impl_IndentAt.mono _ _ _
      | exact impl_Lone.mono _ _ _
      | exact impl_MarkAt.mono _ _ _
      | exact impl_literalCol.mono _ _ _ _
      | exact LeO.none _
      | refine LeO.ite ?_ ?_
      | refine LeO.bind ?_ (fun _ => ?_)
set_option maxHeartbeats 8000000 in
set_option maxRecDepth 100000 in
theorem impl_LiteralAt.calls (k : Nat) (a0 : ByteArray) (a1 : Int) (a2 : Int) (r1 : ByteArray) (r2 : Int) (r3 : Int) (w : World) (h : impl_LiteralAt.f k a0 a1 a2 = some (r1, r2, r3)) :
    Calls Try.prog 55 #[.string a0, .int .i64 a1, .int .i64 a2] w fun e w' => e = .returned (.tuple #[.string r1, .int .i64 r2, .int .i64 r3]) ∧ Below w.heap.size w w' := by
  have HB := Aside0.mk (Below.refl w.heap.size w)
  have H : ((impl_spot.f a0 a1).bind fun t204 => ((impl_HeadAt.f k a0 t204).bind fun bt205 => (if bt205.2.2.2 = 0 then ((impl_behindLine.f a0 bt205.2.2.1).bind fun t209 => (if bt205.1 > 0 then (impl_LiteralAt.j0 k a0 t204 a2 bt205.1 bt205.2.1 t209 60000 t209 (decide (a2 ≤ 60000))) else (impl_LiteralAt.j0 k a0 t204 a2 bt205.1 bt205.2.1 t209 60000 t209 false))) else (some ((⟨#[]⟩ : ByteArray), bt205.2.2.1, bt205.2.2.2))))) = some (r1, r2, r3) := h
  clear h
  replace H := Option.bind_eq_some_iff.mp H
  obtain ⟨t204, A40, H⟩ := H
  replace H : ((impl_HeadAt.f k a0 t204).bind fun bt205 => (if bt205.2.2.2 = 0 then ((impl_behindLine.f a0 bt205.2.2.1).bind fun t209 => (if bt205.1 > 0 then (impl_LiteralAt.j0 k a0 t204 a2 bt205.1 bt205.2.1 t209 60000 t209 (decide (a2 ≤ 60000))) else (impl_LiteralAt.j0 k a0 t204 a2 bt205.1 bt205.2.1 t209 60000 t209 false))) else (some ((⟨#[]⟩ : ByteArray), bt205.2.2.1, bt205.2.2.2)))) = some (r1, r2, r3) := H
  have A4 := Aside0.mk A40
  clear A40
  replace H := Option.bind_eq_some_iff.mp H
  obtain ⟨⟨t205, t206, t207, t208⟩, A50, H⟩ := H
  replace H : (if t208 = 0 then ((impl_behindLine.f a0 t207).bind fun t209 => (if t205 > 0 then (impl_LiteralAt.j0 k a0 t204 a2 t205 t206 t209 60000 t209 (decide (a2 ≤ 60000))) else (impl_LiteralAt.j0 k a0 t204 a2 t205 t206 t209 60000 t209 false))) else (some ((⟨#[]⟩ : ByteArray), t207, t208))) = some (r1, r2, r3) := H
  have A5 := Aside0.mk A50
  clear A50
  by_cases c6 : t208 = 0
  · rw [if_pos c6] at H
    have c6b0 : (t208 == 0) = true := beq_iff_eq.mpr c6
    have c6b1 : (t208 != 0) = false := bne_eq_false_iff_eq.mpr c6
    clear c6
    replace H := Option.bind_eq_some_iff.mp H
    obtain ⟨t209, A70, H⟩ := H
    replace H : (if t205 > 0 then (impl_LiteralAt.j0 k a0 t204 a2 t205 t206 t209 60000 t209 (decide (a2 ≤ 60000))) else (impl_LiteralAt.j0 k a0 t204 a2 t205 t206 t209 60000 t209 false)) = some (r1, r2, r3) := H
    have A7 := Aside0.mk A70
    clear A70
    have HC8 := Aside0.mk H
    clear H
    go_enter Try.func55, Try.ntmps55
    go_upto_block 0 with (first | ((with_reducible refine gate_callee (f := 65) rfl ?_); refine goesL_ (some 20) rfl rfl Try.func65 (by kernel_rfl) rfl #[.string a0, .int .i64 a1] rfl (by (try simp only [List.map_toArray, List.map_cons, List.map_nil]); first | done | rfl | (simp only [List.length_drop, List.length_take]; rfl)) ?_; (with_reducible refine (impl_spot.calls a0 a1 t204 _ A4.out).mono ?_); rintro e w9 ⟨rfl, hb⟩; refine ⟨_, rfl, ?_⟩; have n0_ := Aside0.mk (below_step (by repeat (first | (with_reducible first | exact HB.out | apply below_alloc | apply pw_below_drewN | apply below_drew1) | exact HB.out)) hb); clear HB; have HB := n0_; clear n0_; (try clear hb); (try clear hb2); (try clear hk); (try clear hi)) | ((with_reducible refine gate_callee (f := 105) rfl ?_); refine goesL_ (some 24) rfl rfl Try.func105 (by kernel_rfl) rfl #[.string a0, .int .i64 t204] rfl (by (try simp only [List.map_toArray, List.map_cons, List.map_nil]); first | done | rfl | (simp only [List.length_drop, List.length_take]; rfl)) ?_; (with_reducible refine (impl_HeadAt.calls k a0 t204 t205 t206 t207 t208 _ A5.out).mono ?_); rintro e w10 ⟨rfl, hb⟩; refine ⟨_, rfl, ?_⟩; have n0_ := Aside0.mk (below_step (by repeat (first | (with_reducible first | exact HB.out | apply below_alloc | apply pw_below_drewN | apply below_drew1) | exact HB.out)) hb); clear HB; have HB := n0_; clear n0_; (try clear hb); (try clear hb2); (try clear hk); (try clear hi)) | ((with_reducible refine gate_callee (f := 106) rfl ?_); refine goesL_ (some 35) rfl rfl Try.func106 (by kernel_rfl) rfl #[.string a0, .int .i64 t207] rfl (by (try simp only [List.map_toArray, List.map_cons, List.map_nil]); first | done | rfl | (simp only [List.length_drop, List.length_take]; rfl)) ?_; (with_reducible refine (impl_behindLine.calls a0 t207 t209 _ A7.out).mono ?_); rintro e w11 ⟨rfl, hb⟩; refine ⟨_, rfl, ?_⟩; have n0_ := Aside0.mk (below_step (by repeat (first | (with_reducible first | exact HB.out | apply below_alloc | apply pw_below_drewN | apply below_drew1) | exact HB.out)) hb); clear HB; have HB := n0_; clear n0_; (try clear hb); (try clear hb2); (try clear hk); (try clear hi)))
    (try simp only [Act.put, List.setIfInBounds_toArray, List.set_cons_zero, List.set_cons_succ])
    go_cut [14, 15] (fun v14 v15 wc => ∃ (kq : Nat) (x14_7 : Int) (x15_7 : Int), v14 = .int .i64 x14_7 ∧ v15 = .int .i64 x15_7 ∧ Aside0 (impl_LiteralAt.j1 kq a0 t204 t206 t209 x14_7 x15_7 = some (r1, r2, r3)) ∧ Aside0 (kq ≤ k) ∧ Aside0 (Below w.heap.size w wc))
    case first =>
      have H := HC8.out
      clear HC8
      have HC12 := Aside0.mk H
      clear H
      go_upto_region 7 with (fail)
      go_cut [37] (fun v37 wc => ∃ (kq : Nat) (x37_11 : Bool), v37 = .bool x37_11 ∧ Aside0 (impl_LiteralAt.j0 kq a0 t204 a2 t205 t206 t209 60000 t209 x37_11 = some (r1, r2, r3)) ∧ Aside0 (kq ≤ k) ∧ Aside0 (Below w.heap.size w wc))
      case first =>
        have H := HC12.out
        clear HC12
        by_cases c13 : t205 > 0
        · rw [if_pos c13] at H
          have c13b0 : decide (0 < t205) = true := decide_eq_true c13
          clear c13
          (first | rw [c13b0] | (simp only [i64_w, i32_w]; rw [c13b0]) | skip)
          have H' := Aside0.mk H
          clear H
          go_wp2
          go_meet
          case rel => exact ⟨_, (decide (a2 ≤ 60000)), (by first | rfl | (simp; done) | (simp [*]; done)), H', ⟨by first | omega | exact Nat.le_refl _⟩, ⟨by repeat (first | (with_reducible first | exact HB.out | apply below_alloc | apply pw_below_drewN | apply below_drew1) | exact HB.out)⟩⟩
        · rw [if_neg c13] at H
          have c13b0 : decide (0 < t205) = false := decide_eq_false c13
          clear c13
          (first | rw [c13b0] | (simp only [i64_w, i32_w]; rw [c13b0]) | skip)
          have H' := Aside0.mk H
          clear H
          go_wp2
          go_meet
          case rel => exact ⟨_, (false), (by first | rfl | (simp; done) | (simp [*]; done)), H', ⟨by first | omega | exact Nat.le_refl _⟩, ⟨by repeat (first | (with_reducible first | exact HB.out | apply below_alloc | apply pw_below_drewN | apply below_drew1) | exact HB.out)⟩⟩
      case rest =>
        clear HC12
        try clear c1
        try clear p2
        try clear c5
        try clear c6
        try clear c6b0
        try clear c6b1
        try clear c10
        try clear c13
        try clear c13b0
        obtain ⟨kq, x37_11, rfl, HA, HJ11, HB⟩ := hcut
        cases kq with
        | zero => exact absurd HA.out (by simp [impl_LiteralAt.j0])
        | succ kj11 =>
          have H := HA.out
          clear HA
          simp only [impl_LiteralAt.j0] at H
          by_cases c14 : x37_11 = true
          · subst c14
            have H1 : (impl_LiteralAt.j1 kj11 a0 t204 t206 t209 (wrap64 ((mx a2 0) + t205)) t209) = some (r1, r2, r3) := by rw [if_pos rfl] at H; exact H
            clear H
            have H := H1
            clear H1
            obtain ⟨ji15, hji15⟩ : ∃ j_ : Int, (mx a2 0) = j_ := ⟨_, rfl⟩
            replace H : (impl_LiteralAt.j1 kj11 a0 t204 t206 t209 (wrap64 ((ji15) + t205)) t209) = some (r1, r2, r3) := by first | (rw [hji15] at H; exact H) | (simp only [hji15] at H ⊢; exact H)
            have hji15_ : (if a2 < 0 then 0 else a2) = ji15 := hji15
            have H' := Aside0.mk H
            clear H
            go_wp2
            go_meet
            case rel => exact ⟨_, (wrap64 ((ji15) + t205)), (t209), (by first | rfl | (simp; done) | (simp only [← hji15] <;> (first | rfl | simp)) | (simp [*]; done)), (by first | rfl | (simp; done) | (simp [*]; done)), H', ⟨by have := HJ11.out; first | omega | exact Nat.le_refl _⟩, ⟨by repeat (first | (with_reducible first | exact HB.out | apply below_alloc | apply pw_below_drewN | apply below_drew1) | exact HB.out)⟩⟩
          · replace c14 := Bool.eq_false_iff.mpr c14
            subst c14
            have H1 : (if t205 = 0 then ((impl_literalCol.f kj11 a0 t209 a2).bind fun bt210 => (impl_LiteralAt.j1 kj11 a0 t204 t206 t209 bt210.1 bt210.2)) else (impl_LiteralAt.j1 kj11 a0 t204 t206 t209 60000 t209)) = some (r1, r2, r3) := by rw [if_neg (show ¬ (false = true) by decide)] at H; exact H
            clear H
            have H := H1
            clear H1
            by_cases c16 : t205 = 0
            · rw [if_pos c16] at H
              have c16b0 : (t205 == 0) = true := beq_iff_eq.mpr c16
              have c16b1 : (t205 != 0) = false := bne_eq_false_iff_eq.mpr c16
              clear c16
              replace H := Option.bind_eq_some_iff.mp H
              obtain ⟨⟨t210, t211⟩, A170, H⟩ := H
              replace H : (impl_LiteralAt.j1 kj11 a0 t204 t206 t209 t210 t211) = some (r1, r2, r3) := H
              have A17 := Aside0.mk A170
              clear A170
              have H' := Aside0.mk H
              clear H
              go_wp2_with (first | ((with_reducible refine gate_callee (f := 107) rfl ?_); refine goesL_ (some 55) rfl rfl Try.func107 (by kernel_rfl) rfl #[.string a0, .int .i64 t209, .int .i64 a2] rfl (by (try simp only [List.map_toArray, List.map_cons, List.map_nil]); first | done | rfl | (simp only [List.length_drop, List.length_take]; rfl)) ?_; (with_reducible refine (impl_literalCol.calls kj11 a0 t209 a2 t210 t211 _ A17.out).mono ?_); rintro e w18 ⟨rfl, hb⟩; refine ⟨_, rfl, ?_⟩; have n0_ := Aside0.mk (below_step (by repeat (first | (with_reducible first | exact HB.out | apply below_alloc | apply pw_below_drewN | apply below_drew1) | exact HB.out)) hb); clear HB; have HB := n0_; clear n0_; (try clear hb); (try clear hb2); (try clear hk); (try clear hi)))
              go_meet
              case rel => exact ⟨_, (t210), (t211), (by first | rfl | (simp; done) | (simp [*]; done)), (by first | rfl | (simp; done) | (simp [*]; done)), H', ⟨by have := HJ11.out; first | omega | exact Nat.le_refl _⟩, ⟨by repeat (first | (with_reducible first | exact HB.out | apply below_alloc | apply pw_below_drewN | apply below_drew1) | exact HB.out)⟩⟩
            · rw [if_neg c16] at H
              have c16b0 : (t205 == 0) = false := beq_eq_false_iff_ne.mpr c16
              have c16b1 : (t205 != 0) = true := bne_iff_ne.mpr c16
              have H' := Aside0.mk H
              clear H
              go_wp2
              go_meet
              case rel => exact ⟨_, (60000), (t209), (by first | rfl | (simp; done) | (simp [*]; done)), (by first | rfl | (simp; done) | (simp [*]; done)), H', ⟨by have := HJ11.out; first | omega | exact Nat.le_refl _⟩, ⟨by repeat (first | (with_reducible first | exact HB.out | apply below_alloc | apply pw_below_drewN | apply below_drew1) | exact HB.out)⟩⟩
    case rest =>
      clear HC8
      try clear c1
      try clear p2
      try clear c5
      try clear c6
      try clear c6b0
      try clear c6b1
      try clear p6
      try clear c10
      try clear c13
      try clear c13b0
      try clear c14
      try clear c16
      try clear c16b0
      try clear c16b1
      try clear p2
      obtain ⟨kq, x14_7, x15_7, rfl, rfl, HA, HJ7, HB⟩ := hcut
      cases kq with
      | zero => exact absurd HA.out (by simp [impl_LiteralAt.j1])
      | succ kj7 =>
        have H := HA.out
        clear HA
        simp only [impl_LiteralAt.j1] at H
        obtain ⟨y212, hy212⟩ : ∃ y_ : List ByteArray, y_ = (([] : List ByteArray)) := ⟨_, rfl⟩
        replace H : (impl_LiteralAt.l0 kj7 a0 t204 t206 t209 x14_7 x15_7 y212) = some (r1, r2, r3) := by first | (rw [hy212]; with_reducible exact H) | (have H2_ := (Option.bind_some _ _).symm.trans H; rw [hy212]; with_reducible exact H2_) | (have H2_ := (Option.bind_some _ _).symm.trans H; with_reducible exact H2_) | with_reducible exact H | (rw [hy212]; exact H) | exact H
        have Ny212 := Aside0.mk hy212
        clear hy212
        have H' := Aside0.mk H
        clear H
        go_wp2_with (first | ((with_reducible refine gate_dst (N := 58) rfl ?_); refine Kd.R_lit Kd.string _ 9 ?hg (N := 58) ?hd (xs := ([] : List ByteArray)) (inner := []) (ok := fun _ => True) (okp := fun _ => True) ?hr ?hp (fun _ hk => hk) trivial (Below.refl _ _) (Nat.le_refl _) (by simp) ?_; (case hd => rfl); (case hg => rfl); (case hr => first | (go_simp; done) | (go_simp; rfl)); (case hp => exact (Reps.none _ _)); intro v213 w19 ho20 hb hg_ hnew_; clear hg_ hnew_; (first | rw [← Ny212.out] at ho20 | (simp only [Int.reduceToNat] at ho20; rw [← Ny212.out] at ho20)); have n0_ := Aside0.mk (Kd.R_lower ho20 (below_size (by repeat (first | (with_reducible first | exact HB.out | apply below_alloc | apply pw_below_drewN | apply below_drew1) | exact HB.out)))); have n1_ := Aside0.mk (below_step (by repeat (first | (with_reducible first | exact HB.out | apply below_alloc | apply pw_below_drewN | apply below_drew1) | exact HB.out)) hb); clear HB; have HO214 := n0_; have HB := n1_; clear n0_ n1_; clear hb ho20))
        go_loopg [13, 16] kj7 (fun kq v13 v16 w' => ∃ (x13_2 : Int) (x16_2 : List ByteArray), v13 = .int .i64 x13_2 ∧ Aside0 (impl_LiteralAt.l0 kq a0 t204 t206 x13_2 x14_7 x15_7 x16_2 = some (r1, r2, r3)) ∧ Aside0 (kq ≤ kj7) ∧ Aside0 (Kd.R Kd.string 9 w' w.heap.size (fun _ => True) v16 x16_2) ∧ Aside0 (Below w.heap.size w w'))
        case atStart => exact ⟨(t209), (y212), (by first | rfl | (simp; done) | (simp [*]; done)), H', ⟨Nat.le_refl _⟩, ⟨by (with_reducible repeat (first | apply Kd.R_alloc | apply Kd.R_drewN | apply Kd.R_drew)); exact HO214.out⟩, ⟨by repeat (first | (with_reducible first | exact HB.out | apply below_alloc | apply pw_below_drewN | apply below_drew1) | exact HB.out)⟩⟩
        case round =>
          clear H'
          try clear c1
          try clear p2
          try clear c5
          try clear c6
          try clear c6b0
          try clear c6b1
          try clear p6
          try clear c10
          try clear c13
          try clear c13b0
          try clear c14
          try clear c16
          try clear c16b0
          try clear c16b1
          try clear p2
          try clear p6
          obtain ⟨x13_2, x16_2, rfl, HA, HK2, HO_16, HB⟩ := hrel
          cases gk with
          | zero => exact absurd HA.out (by simp [impl_LiteralAt.l0])
          | succ k2 =>
            have H := HA.out
            clear HA
            simp only [impl_LiteralAt.l0] at H
            have HC21 := Aside0.mk H
            clear H
            go_upto_region 12 with (fail)
            go_cut [80] (fun v80 wc => ∃ (kq : Nat) (x80_20 : Bool), v80 = .bool x80_20 ∧ Aside0 (impl_LiteralAt.j3 kq a0 t204 t206 x13_2 x14_7 x15_7 x16_2 x80_20 = some (r1, r2, r3)) ∧ Aside0 (kq ≤ k2) ∧ Aside0 (Kd.R Kd.string 9 wc w.heap.size (fun _ => True) u16 x16_2) ∧ Aside0 (Below w.heap.size w wc))
            case first =>
              have H := HC21.out
              clear HC21
              by_cases c22 : x13_2 < (a0.size : Int)
              · rw [if_pos c22] at H
                have c22b0 : decide (x13_2 < (a0.size : Int)) = true := decide_eq_true c22
                clear c22
                (first | rw [c22b0] | (simp only [i64_w, i32_w]; rw [c22b0]) | skip)
                replace H := Option.bind_eq_some_iff.mp H
                obtain ⟨t215, A230, H⟩ := H
                replace H : (if t215 = 0 then ((impl_Lone.f k2 a0 x13_2).bind fun t216 => (if t216 = true then (impl_LiteralAt.j3 k2 a0 t204 t206 x13_2 x14_7 x15_7 x16_2 true) else ((impl_IndentAt.f k2 a0 x13_2).bind fun t217 => (impl_LiteralAt.j3 k2 a0 t204 t206 x13_2 x14_7 x15_7 x16_2 (decide (t217 ≥ x14_7)))))) else (impl_LiteralAt.j3 k2 a0 t204 t206 x13_2 x14_7 x15_7 x16_2 false)) = some (r1, r2, r3) := H
                have A23 := Aside0.mk A230
                clear A230
                by_cases c24 : t215 = 0
                · rw [if_pos c24] at H
                  have c24b0 : (t215 == 0) = true := beq_iff_eq.mpr c24
                  have c24b1 : (t215 != 0) = false := bne_eq_false_iff_eq.mpr c24
                  clear c24
                  replace H := Option.bind_eq_some_iff.mp H
                  obtain ⟨t216, A250, H⟩ := H
                  replace H : (if t216 = true then (impl_LiteralAt.j3 k2 a0 t204 t206 x13_2 x14_7 x15_7 x16_2 true) else ((impl_IndentAt.f k2 a0 x13_2).bind fun t217 => (impl_LiteralAt.j3 k2 a0 t204 t206 x13_2 x14_7 x15_7 x16_2 (decide (t217 ≥ x14_7))))) = some (r1, r2, r3) := H
                  have A25 := Aside0.mk A250
                  clear A250
                  by_cases c26 : t216 = true
                  · subst c26
                    have H1 : (impl_LiteralAt.j3 k2 a0 t204 t206 x13_2 x14_7 x15_7 x16_2 true) = some (r1, r2, r3) := by rw [if_pos rfl] at H; exact H
                    clear H
                    have H := H1
                    clear H1
                    have H' := Aside0.mk H
                    clear H
                    go_wp2_with (first | (go_at_call 108; (with_reducible refine (impl_MarkAt.calls k2 a0 x13_2 t215 _ A23.out).mono ?_); rintro e w27 ⟨rfl, hb⟩; have n0_ := Aside0.mk (Kd.R_below (by (with_reducible repeat (first | apply Kd.R_alloc | apply Kd.R_drewN | apply Kd.R_drew)); exact HO_16.out) hb); have n1_ := Aside0.mk (below_step (by repeat (first | (with_reducible first | exact HB.out | apply below_alloc | apply pw_below_drewN | apply below_drew1) | exact HB.out)) hb); clear HO_16; clear HB; have HO_16 := n0_; have HB := n1_; clear n0_ n1_; (try clear hb); (try clear hb2); (try clear hk); (try clear hi)) | (go_at_call 36; (with_reducible refine (impl_Lone.calls k2 a0 x13_2 true _ A25.out).mono ?_); rintro e w28 ⟨rfl, hb⟩; have n0_ := Aside0.mk (Kd.R_below (by (with_reducible repeat (first | apply Kd.R_alloc | apply Kd.R_drewN | apply Kd.R_drew)); exact HO_16.out) hb); have n1_ := Aside0.mk (below_step (by repeat (first | (with_reducible first | exact HB.out | apply below_alloc | apply pw_below_drewN | apply below_drew1) | exact HB.out)) hb); clear HO_16; clear HB; have HO_16 := n0_; have HB := n1_; clear n0_ n1_; (try clear hb); (try clear hb2); (try clear hk); (try clear hi)))
                    go_meet
                    case rel => exact ⟨_, (true), (by first | rfl | (simp; done) | (simp [*]; done)), H', ⟨by have := HJ7.out; have := HK2.out; first | omega | exact Nat.le_refl _⟩, ⟨by (with_reducible repeat (first | apply Kd.R_alloc | apply Kd.R_drewN | apply Kd.R_drew)); exact HO_16.out⟩, ⟨by repeat (first | (with_reducible first | exact HB.out | apply below_alloc | apply pw_below_drewN | apply below_drew1) | exact HB.out)⟩⟩
                  · replace c26 := Bool.eq_false_iff.mpr c26
                    subst c26
                    have H1 : ((impl_IndentAt.f k2 a0 x13_2).bind fun t217 => (impl_LiteralAt.j3 k2 a0 t204 t206 x13_2 x14_7 x15_7 x16_2 (decide (t217 ≥ x14_7)))) = some (r1, r2, r3) := by rw [if_neg (show ¬ (false = true) by decide)] at H; exact H
                    clear H
                    have H := H1
                    clear H1
                    replace H := Option.bind_eq_some_iff.mp H
                    obtain ⟨t217, A290, H⟩ := H
                    replace H : (impl_LiteralAt.j3 k2 a0 t204 t206 x13_2 x14_7 x15_7 x16_2 (decide (t217 ≥ x14_7))) = some (r1, r2, r3) := H
                    have A29 := Aside0.mk A290
                    clear A290
                    have H' := Aside0.mk H
                    clear H
                    go_wp2_with (first | (go_at_call 108; (with_reducible refine (impl_MarkAt.calls k2 a0 x13_2 t215 _ A23.out).mono ?_); rintro e w30 ⟨rfl, hb⟩; have n0_ := Aside0.mk (Kd.R_below (by (with_reducible repeat (first | apply Kd.R_alloc | apply Kd.R_drewN | apply Kd.R_drew)); exact HO_16.out) hb); have n1_ := Aside0.mk (below_step (by repeat (first | (with_reducible first | exact HB.out | apply below_alloc | apply pw_below_drewN | apply below_drew1) | exact HB.out)) hb); clear HO_16; clear HB; have HO_16 := n0_; have HB := n1_; clear n0_ n1_; (try clear hb); (try clear hb2); (try clear hk); (try clear hi)) | (go_at_call 36; (with_reducible refine (impl_Lone.calls k2 a0 x13_2 false _ A25.out).mono ?_); rintro e w31 ⟨rfl, hb⟩; have n0_ := Aside0.mk (Kd.R_below (by (with_reducible repeat (first | apply Kd.R_alloc | apply Kd.R_drewN | apply Kd.R_drew)); exact HO_16.out) hb); have n1_ := Aside0.mk (below_step (by repeat (first | (with_reducible first | exact HB.out | apply below_alloc | apply pw_below_drewN | apply below_drew1) | exact HB.out)) hb); clear HO_16; clear HB; have HO_16 := n0_; have HB := n1_; clear n0_ n1_; (try clear hb); (try clear hb2); (try clear hk); (try clear hi)) | (go_at_call 34; (with_reducible refine (impl_IndentAt.calls k2 a0 x13_2 t217 _ A29.out).mono ?_); rintro e w32 ⟨rfl, hb⟩; have n0_ := Aside0.mk (Kd.R_below (by (with_reducible repeat (first | apply Kd.R_alloc | apply Kd.R_drewN | apply Kd.R_drew)); exact HO_16.out) hb); have n1_ := Aside0.mk (below_step (by repeat (first | (with_reducible first | exact HB.out | apply below_alloc | apply pw_below_drewN | apply below_drew1) | exact HB.out)) hb); clear HO_16; clear HB; have HO_16 := n0_; have HB := n1_; clear n0_ n1_; (try clear hb); (try clear hb2); (try clear hk); (try clear hi)))
                    go_meet
                    case rel => exact ⟨_, (decide (t217 ≥ x14_7)), (by first | rfl | (simp; done) | (simp [*]; done)), H', ⟨by have := HJ7.out; have := HK2.out; first | omega | exact Nat.le_refl _⟩, ⟨by (with_reducible repeat (first | apply Kd.R_alloc | apply Kd.R_drewN | apply Kd.R_drew)); exact HO_16.out⟩, ⟨by repeat (first | (with_reducible first | exact HB.out | apply below_alloc | apply pw_below_drewN | apply below_drew1) | exact HB.out)⟩⟩
                · rw [if_neg c24] at H
                  have c24b0 : (t215 == 0) = false := beq_eq_false_iff_ne.mpr c24
                  have c24b1 : (t215 != 0) = true := bne_iff_ne.mpr c24
                  have H' := Aside0.mk H
                  clear H
                  go_wp2_with (first | (go_at_call 108; (with_reducible refine (impl_MarkAt.calls k2 a0 x13_2 t215 _ A23.out).mono ?_); rintro e w33 ⟨rfl, hb⟩; have n0_ := Aside0.mk (Kd.R_below (by (with_reducible repeat (first | apply Kd.R_alloc | apply Kd.R_drewN | apply Kd.R_drew)); exact HO_16.out) hb); have n1_ := Aside0.mk (below_step (by repeat (first | (with_reducible first | exact HB.out | apply below_alloc | apply pw_below_drewN | apply below_drew1) | exact HB.out)) hb); clear HO_16; clear HB; have HO_16 := n0_; have HB := n1_; clear n0_ n1_; (try clear hb); (try clear hb2); (try clear hk); (try clear hi)))
                  go_meet
                  case rel => exact ⟨_, (false), (by first | rfl | (simp; done) | (simp [*]; done)), H', ⟨by have := HJ7.out; have := HK2.out; first | omega | exact Nat.le_refl _⟩, ⟨by (with_reducible repeat (first | apply Kd.R_alloc | apply Kd.R_drewN | apply Kd.R_drew)); exact HO_16.out⟩, ⟨by repeat (first | (with_reducible first | exact HB.out | apply below_alloc | apply pw_below_drewN | apply below_drew1) | exact HB.out)⟩⟩
              · rw [if_neg c22] at H
                have c22b0 : decide (x13_2 < (a0.size : Int)) = false := decide_eq_false c22
                clear c22
                (first | rw [c22b0] | (simp only [i64_w, i32_w]; rw [c22b0]) | skip)
                have H' := Aside0.mk H
                clear H
                go_wp2
                go_meet
                case rel => exact ⟨_, (false), (by first | rfl | (simp; done) | (simp [*]; done)), H', ⟨by have := HJ7.out; have := HK2.out; first | omega | exact Nat.le_refl _⟩, ⟨by (with_reducible repeat (first | apply Kd.R_alloc | apply Kd.R_drewN | apply Kd.R_drew)); exact HO_16.out⟩, ⟨by repeat (first | (with_reducible first | exact HB.out | apply below_alloc | apply pw_below_drewN | apply below_drew1) | exact HB.out)⟩⟩
            case rest =>
              clear HC21
              try clear c1
              try clear c2
              try clear p2
              try clear c5
              try clear c6
              try clear c6b0
              try clear c6b1
              try clear p6
              try clear c10
              try clear c13
              try clear c13b0
              try clear c14
              try clear c16
              try clear c16b0
              try clear c16b1
              try clear c22
              try clear c22b0
              try clear c24
              try clear c24b0
              try clear c24b1
              try clear c26
              try clear p2
              try clear p6
              obtain ⟨kq, x80_20, rfl, HA, HJ20, HO_16, HB⟩ := hcut
              cases kq with
              | zero => exact absurd HA.out (by simp [impl_LiteralAt.j3])
              | succ kj20 =>
                have H := HA.out
                clear HA
                simp only [impl_LiteralAt.j3] at H
                by_cases c34 : x80_20 = true
                · subst c34
                  have H1 : (if x13_2 ≥ x15_7 then ((impl_Lone.f kj20 a0 x13_2).bind fun t219 => (if t219 = true then ((impl_IndentAt.f kj20 a0 x13_2).bind fun t220 => (impl_LiteralAt.j4 kj20 a0 t204 t206 x13_2 x14_7 x15_7 x16_2 (⟨#[]⟩ : ByteArray) (decide (t220 > x14_7)))) else (impl_LiteralAt.j4 kj20 a0 t204 t206 x13_2 x14_7 x15_7 x16_2 (⟨#[]⟩ : ByteArray) true))) else (impl_LiteralAt.j4 kj20 a0 t204 t206 x13_2 x14_7 x15_7 x16_2 (⟨#[]⟩ : ByteArray) false)) = some (r1, r2, r3) := by rw [if_pos rfl] at H; exact H
                  clear H
                  have H := H1
                  clear H1
                  have HC35 := Aside0.mk H
                  clear H
                  go_upto_region 14 with (fail)
                  go_cut [96] (fun v96 wc => ∃ (kq : Nat) (x96_34 : Bool), v96 = .bool x96_34 ∧ Aside0 (impl_LiteralAt.j4 kq a0 t204 t206 x13_2 x14_7 x15_7 x16_2 (⟨#[]⟩ : ByteArray) x96_34 = some (r1, r2, r3)) ∧ Aside0 (kq ≤ kj20) ∧ Aside0 (Kd.R Kd.string 9 wc w.heap.size (fun _ => True) u16 x16_2) ∧ Aside0 (Below w.heap.size w wc))
                  case first =>
                    have H := HC35.out
                    clear HC35
                    by_cases c36 : x13_2 ≥ x15_7
                    · rw [if_pos c36] at H
                      have c36b0 : decide (x15_7 ≤ x13_2) = true := decide_eq_true c36
                      clear c36
                      (first | rw [c36b0] | (simp only [i64_w, i32_w]; rw [c36b0]) | skip)
                      replace H := Option.bind_eq_some_iff.mp H
                      obtain ⟨t219, A370, H⟩ := H
                      replace H : (if t219 = true then ((impl_IndentAt.f kj20 a0 x13_2).bind fun t220 => (impl_LiteralAt.j4 kj20 a0 t204 t206 x13_2 x14_7 x15_7 x16_2 (⟨#[]⟩ : ByteArray) (decide (t220 > x14_7)))) else (impl_LiteralAt.j4 kj20 a0 t204 t206 x13_2 x14_7 x15_7 x16_2 (⟨#[]⟩ : ByteArray) true)) = some (r1, r2, r3) := H
                      have A37 := Aside0.mk A370
                      clear A370
                      by_cases c38 : t219 = true
                      · subst c38
                        have H1 : ((impl_IndentAt.f kj20 a0 x13_2).bind fun t220 => (impl_LiteralAt.j4 kj20 a0 t204 t206 x13_2 x14_7 x15_7 x16_2 (⟨#[]⟩ : ByteArray) (decide (t220 > x14_7)))) = some (r1, r2, r3) := by rw [if_pos rfl] at H; exact H
                        clear H
                        have H := H1
                        clear H1
                        replace H := Option.bind_eq_some_iff.mp H
                        obtain ⟨t220, A390, H⟩ := H
                        replace H : (impl_LiteralAt.j4 kj20 a0 t204 t206 x13_2 x14_7 x15_7 x16_2 (⟨#[]⟩ : ByteArray) (decide (t220 > x14_7))) = some (r1, r2, r3) := H
                        have A39 := Aside0.mk A390
                        clear A390
                        have H' := Aside0.mk H
                        clear H
                        go_wp2_with (first | (go_at_call 36; (with_reducible refine (impl_Lone.calls kj20 a0 x13_2 true _ A37.out).mono ?_); rintro e w40 ⟨rfl, hb⟩; have n0_ := Aside0.mk (Kd.R_below (by (with_reducible repeat (first | apply Kd.R_alloc | apply Kd.R_drewN | apply Kd.R_drew)); exact HO_16.out) hb); have n1_ := Aside0.mk (below_step (by repeat (first | (with_reducible first | exact HB.out | apply below_alloc | apply pw_below_drewN | apply below_drew1) | exact HB.out)) hb); clear HO_16; clear HB; have HO_16 := n0_; have HB := n1_; clear n0_ n1_; (try clear hb); (try clear hb2); (try clear hk); (try clear hi)) | (go_at_call 34; (with_reducible refine (impl_IndentAt.calls kj20 a0 x13_2 t220 _ A39.out).mono ?_); rintro e w41 ⟨rfl, hb⟩; have n0_ := Aside0.mk (Kd.R_below (by (with_reducible repeat (first | apply Kd.R_alloc | apply Kd.R_drewN | apply Kd.R_drew)); exact HO_16.out) hb); have n1_ := Aside0.mk (below_step (by repeat (first | (with_reducible first | exact HB.out | apply below_alloc | apply pw_below_drewN | apply below_drew1) | exact HB.out)) hb); clear HO_16; clear HB; have HO_16 := n0_; have HB := n1_; clear n0_ n1_; (try clear hb); (try clear hb2); (try clear hk); (try clear hi)))
                        go_meet
                        case rel => exact ⟨_, (decide (t220 > x14_7)), (by first | rfl | (simp; done) | (simp [*]; done)), H', ⟨by have := HJ7.out; have := HK2.out; have := HJ20.out; first | omega | exact Nat.le_refl _⟩, ⟨by (with_reducible repeat (first | apply Kd.R_alloc | apply Kd.R_drewN | apply Kd.R_drew)); exact HO_16.out⟩, ⟨by repeat (first | (with_reducible first | exact HB.out | apply below_alloc | apply pw_below_drewN | apply below_drew1) | exact HB.out)⟩⟩
                      · replace c38 := Bool.eq_false_iff.mpr c38
                        subst c38
                        have H1 : (impl_LiteralAt.j4 kj20 a0 t204 t206 x13_2 x14_7 x15_7 x16_2 (⟨#[]⟩ : ByteArray) true) = some (r1, r2, r3) := by rw [if_neg (show ¬ (false = true) by decide)] at H; exact H
                        clear H
                        have H := H1
                        clear H1
                        have H' := Aside0.mk H
                        clear H
                        go_wp2_with (first | (go_at_call 36; (with_reducible refine (impl_Lone.calls kj20 a0 x13_2 false _ A37.out).mono ?_); rintro e w42 ⟨rfl, hb⟩; have n0_ := Aside0.mk (Kd.R_below (by (with_reducible repeat (first | apply Kd.R_alloc | apply Kd.R_drewN | apply Kd.R_drew)); exact HO_16.out) hb); have n1_ := Aside0.mk (below_step (by repeat (first | (with_reducible first | exact HB.out | apply below_alloc | apply pw_below_drewN | apply below_drew1) | exact HB.out)) hb); clear HO_16; clear HB; have HO_16 := n0_; have HB := n1_; clear n0_ n1_; (try clear hb); (try clear hb2); (try clear hk); (try clear hi)))
                        go_meet
                        case rel => exact ⟨_, (true), (by first | rfl | (simp; done) | (simp [*]; done)), H', ⟨by have := HJ7.out; have := HK2.out; have := HJ20.out; first | omega | exact Nat.le_refl _⟩, ⟨by (with_reducible repeat (first | apply Kd.R_alloc | apply Kd.R_drewN | apply Kd.R_drew)); exact HO_16.out⟩, ⟨by repeat (first | (with_reducible first | exact HB.out | apply below_alloc | apply pw_below_drewN | apply below_drew1) | exact HB.out)⟩⟩
                    · rw [if_neg c36] at H
                      have c36b0 : decide (x15_7 ≤ x13_2) = false := decide_eq_false c36
                      clear c36
                      (first | rw [c36b0] | (simp only [i64_w, i32_w]; rw [c36b0]) | skip)
                      have H' := Aside0.mk H
                      clear H
                      go_wp2
                      go_meet
                      case rel => exact ⟨_, (false), (by first | rfl | (simp; done) | (simp [*]; done)), H', ⟨by have := HJ7.out; have := HK2.out; have := HJ20.out; first | omega | exact Nat.le_refl _⟩, ⟨by (with_reducible repeat (first | apply Kd.R_alloc | apply Kd.R_drewN | apply Kd.R_drew)); exact HO_16.out⟩, ⟨by repeat (first | (with_reducible first | exact HB.out | apply below_alloc | apply pw_below_drewN | apply below_drew1) | exact HB.out)⟩⟩
                  case rest =>
                    clear HC35
                    try clear c1
                    try clear c2
                    try clear p2
                    try clear c3
                    try clear c5
                    try clear c6
                    try clear c6b0
                    try clear c6b1
                    try clear p6
                    try clear c10
                    try clear c13
                    try clear c13b0
                    try clear c14
                    try clear c16
                    try clear c16b0
                    try clear c16b1
                    try clear c22
                    try clear c22b0
                    try clear c24
                    try clear c24b0
                    try clear c24b1
                    try clear c26
                    try clear c34
                    try clear c36
                    try clear c36b0
                    try clear c38
                    try clear p2
                    try clear p6
                    obtain ⟨kq, x96_34, rfl, HA, HJ34, HO_16, HB⟩ := hcut
                    cases kq with
                    | zero => exact absurd HA.out (by simp [impl_LiteralAt.j4])
                    | succ kj34 =>
                      have H := HA.out
                      clear HA
                      simp only [impl_LiteralAt.j4] at H
                      by_cases c43 : x96_34 = true
                      · subst c43
                        have H1 : ((impl_EndAt.f a0 x13_2).bind fun t221 => (if 0 ≤ (wrap64 (x13_2 + x14_7)) then (if (wrap64 (x13_2 + x14_7)) ≤ t221 then (if t221 ≤ (a0.size : Int) then (if x16_2.length < 8796093022208 then ((impl_EndAt.f a0 x13_2).bind fun t225 => ((impl_behindLine.f a0 t225).bind fun t226 => (impl_LiteralAt.l0 kj34 a0 t204 t206 t226 x14_7 x15_7 (x16_2 ++ [a0.extract ((wrap64 (x13_2 + x14_7)) : Int).toNat (t221 : Int).toNat])))) else (none)) else (none)) else (none)) else (none))) = some (r1, r2, r3) := by rw [if_pos rfl] at H; exact H
                        clear H
                        have H := H1
                        clear H1
                        replace H := Option.bind_eq_some_iff.mp H
                        obtain ⟨t221, A440, H⟩ := H
                        replace H : (if 0 ≤ (wrap64 (x13_2 + x14_7)) then (if (wrap64 (x13_2 + x14_7)) ≤ t221 then (if t221 ≤ (a0.size : Int) then (if x16_2.length < 8796093022208 then ((impl_EndAt.f a0 x13_2).bind fun t225 => ((impl_behindLine.f a0 t225).bind fun t226 => (impl_LiteralAt.l0 kj34 a0 t204 t206 t226 x14_7 x15_7 (x16_2 ++ [a0.extract ((wrap64 (x13_2 + x14_7)) : Int).toNat (t221 : Int).toNat])))) else (none)) else (none)) else (none)) else (none)) = some (r1, r2, r3) := H
                        have A44 := Aside0.mk A440
                        clear A440
                        obtain ⟨ji45, hji45⟩ : ∃ j_ : Int, (wrap64 (x13_2 + x14_7)) = j_ := ⟨_, rfl⟩
                        replace H : (if 0 ≤ (ji45) then (if (ji45) ≤ t221 then (if t221 ≤ (a0.size : Int) then (if x16_2.length < 8796093022208 then ((impl_EndAt.f a0 x13_2).bind fun t225 => ((impl_behindLine.f a0 t225).bind fun t226 => (impl_LiteralAt.l0 kj34 a0 t204 t206 t226 x14_7 x15_7 (x16_2 ++ [a0.extract ((ji45) : Int).toNat (t221 : Int).toNat])))) else (none)) else (none)) else (none)) else (none)) = some (r1, r2, r3) := by first | (rw [hji45] at H; exact H) | (simp only [hji45] at H ⊢; exact H)
                        (try rw [hji45] at A44)
                        have hji45w : (IntKind.i64.wrap (x13_2 + x14_7)) = ji45 := (i64_w _).trans hji45
                        by_cases c46 : 0 ≤ (ji45)
                        · rw [if_pos c46] at H
                          have c46b0 := eq_true c46
                          have c46b1 : decide (0 ≤ (ji45)) = true := decide_eq_true c46
                          clear c46
                          by_cases c47 : (ji45) ≤ t221
                          · rw [if_pos c47] at H
                            have c47b0 := eq_true c47
                            have c47b1 : decide ((ji45) ≤ t221) = true := decide_eq_true c47
                            clear c47
                            by_cases c48 : t221 ≤ (a0.size : Int)
                            · rw [if_pos c48] at H
                              have c48b0 := eq_true c48
                              have c48b1 : decide (t221 ≤ (a0.size : Int)) = true := decide_eq_true c48
                              clear c48
                              by_cases c49 : x16_2.length < 8796093022208
                              · rw [if_pos c49] at H
                                have LMc49 := Aside0.mk c49
                                clear c49
                                obtain ⟨y222, hy222⟩ : ∃ y_ : List ByteArray, y_ = (x16_2 ++ [a0.extract ((ji45) : Int).toNat (t221 : Int).toNat]) := ⟨_, rfl⟩
                                replace H : ((impl_EndAt.f a0 x13_2).bind fun t225 => ((impl_behindLine.f a0 t225).bind fun t226 => (impl_LiteralAt.l0 kj34 a0 t204 t206 t226 x14_7 x15_7 y222))) = some (r1, r2, r3) := by first | (rw [hy222]; with_reducible exact H) | (have H2_ := (Option.bind_some _ _).symm.trans H; rw [hy222]; with_reducible exact H2_) | (have H2_ := (Option.bind_some _ _).symm.trans H; with_reducible exact H2_) | with_reducible exact H | (rw [hy222]; exact H) | exact H
                                have Ny222 := Aside0.mk hy222
                                clear hy222
                                replace H := Option.bind_eq_some_iff.mp H
                                obtain ⟨t225, A500, H⟩ := H
                                replace H : ((impl_behindLine.f a0 t225).bind fun t226 => (impl_LiteralAt.l0 kj34 a0 t204 t206 t226 x14_7 x15_7 y222)) = some (r1, r2, r3) := H
                                have A50 := Aside0.mk A500
                                clear A500
                                replace H := Option.bind_eq_some_iff.mp H
                                obtain ⟨t226, A510, H⟩ := H
                                replace H : (impl_LiteralAt.l0 kj34 a0 t204 t206 t226 x14_7 x15_7 y222) = some (r1, r2, r3) := H
                                have A51 := Aside0.mk A510
                                clear A510
                                have H' := Aside0.mk H
                                clear H
                                go_wp2_with (first | ((with_reducible refine gate_callee (f := 30) rfl ?_); refine goesL_ (some 103) rfl rfl Try.func30 (by kernel_rfl) rfl #[.string a0, .int .i64 x13_2] rfl (by (try simp only [List.map_toArray, List.map_cons, List.map_nil]); first | done | rfl | (simp only [List.length_drop, List.length_take]; rfl)) ?_; (with_reducible refine (impl_EndAt.calls a0 x13_2 t221 _ A44.out).mono ?_); rintro e w52 ⟨rfl, hb⟩; refine ⟨_, rfl, ?_⟩; have n0_ := Aside0.mk (Kd.R_below (by (with_reducible repeat (first | apply Kd.R_alloc | apply Kd.R_drewN | apply Kd.R_drew)); exact HO_16.out) hb); have n1_ := Aside0.mk (below_step (by repeat (first | (with_reducible first | exact HB.out | apply below_alloc | apply pw_below_drewN | apply below_drew1) | exact HB.out)) hb); clear HO_16; clear HB; have HO_16 := n0_; have HB := n1_; clear n0_ n1_; (try clear hb); (try clear hb2); (try clear hk); (try clear hi)) | ((with_reducible refine gate_builtin (b := .append) (xs := #[.tmp 105, .tmp 107]) rfl ?_); at_builtin; refine Kd.R_append Kd.string (w0 := w) w.heap.size rfl (.tmp 105) (.tmp 107) 53 9 (.string ⟨#[]⟩) 16 rfl Try.underlying53 info9 rfl (by decide) (by omega) u16 x16_2 (a0.extract ((ji45) : Int).toNat (t221 : Int).toNat) [.string (a0.extract ((ji45) : Int).toNat (t221 : Int).toNat)] (fun _ => True) (fun _ => False) rfl rfl ?aP (fun _ hk => hk.elim) ?aF ?aO ?aB ?aS ?aL ?_; (case aP => exact rfl); (case aB => exact (by repeat (first | (with_reducible first | exact HB.out | apply below_alloc | apply pw_below_drewN | apply below_drew1) | exact HB.out))); (case aF => exact (fun _ _ => trivial)); (case aO => exact (by (with_reducible repeat (first | apply Kd.R_alloc | apply Kd.R_drewN | apply Kd.R_drew)); exact HO_16.out)); (case aS => exact (below_size (by repeat (first | (with_reducible first | exact HB.out | apply below_alloc | apply pw_below_drewN | apply below_drew1) | exact HB.out)))); (case aL => have := LMc49.out; omega); intro v223 w53 ho hb hg hat; rw [← Ny222.out] at ho; have n0_ := Aside0.mk (hb); have n1_ := Aside0.mk (ho); clear HB; clear HO_16; have HB := n0_; have HO224 := n1_; clear n0_ n1_; clear ho hb hg hat) | ((with_reducible refine gate_callee (f := 30) rfl ?_); refine goesL_ (some 112) rfl rfl Try.func30 (by kernel_rfl) rfl #[.string a0, .int .i64 x13_2] rfl (by (try simp only [List.map_toArray, List.map_cons, List.map_nil]); first | done | rfl | (simp only [List.length_drop, List.length_take]; rfl)) ?_; (with_reducible refine (impl_EndAt.calls a0 x13_2 t225 _ A50.out).mono ?_); rintro e w54 ⟨rfl, hb⟩; refine ⟨_, rfl, ?_⟩; have n0_ := Aside0.mk (Kd.R_below (by (with_reducible repeat (first | apply Kd.R_alloc | apply Kd.R_drewN | apply Kd.R_drew)); exact HO224.out) hb); have n1_ := Aside0.mk (below_step (by repeat (first | (with_reducible first | exact HB.out | apply below_alloc | apply pw_below_drewN | apply below_drew1) | exact HB.out)) hb); clear HO224; clear HB; have HO224 := n0_; have HB := n1_; clear n0_ n1_; (try clear hb); (try clear hb2); (try clear hk); (try clear hi)) | ((with_reducible refine gate_callee (f := 106) rfl ?_); refine goesL_ (some 113) rfl rfl Try.func106 (by kernel_rfl) rfl #[.string a0, .int .i64 t225] rfl (by (try simp only [List.map_toArray, List.map_cons, List.map_nil]); first | done | rfl | (simp only [List.length_drop, List.length_take]; rfl)) ?_; (with_reducible refine (impl_behindLine.calls a0 t225 t226 _ A51.out).mono ?_); rintro e w55 ⟨rfl, hb⟩; refine ⟨_, rfl, ?_⟩; have n0_ := Aside0.mk (Kd.R_below (by (with_reducible repeat (first | apply Kd.R_alloc | apply Kd.R_drewN | apply Kd.R_drew)); exact HO224.out) hb); have n1_ := Aside0.mk (below_step (by repeat (first | (with_reducible first | exact HB.out | apply below_alloc | apply pw_below_drewN | apply below_drew1) | exact HB.out)) hb); clear HO224; clear HB; have HO224 := n0_; have HB := n1_; clear n0_ n1_; (try clear hb); (try clear hb2); (try clear hk); (try clear hi)))
                                go_roundg kj34
                                case measure => have := HJ7.out; have := HK2.out; have := HJ20.out; have := HJ34.out; omega
                                case rel => exact ⟨(t226), (y222), (by first | rfl | (simp; done) | (simp [*]; done)), H', ⟨by have := HJ7.out; have := HK2.out; have := HJ20.out; have := HJ34.out; omega⟩, ⟨by (with_reducible repeat (first | apply Kd.R_alloc | apply Kd.R_drewN | apply Kd.R_drew)); exact HO224.out⟩, ⟨by repeat (first | (with_reducible first | exact HB.out | apply below_alloc | apply pw_below_drewN | apply below_drew1) | exact HB.out)⟩⟩
                              · rw [if_neg c49] at H
                                exact absurd H (by simp)
                            · rw [if_neg c48] at H
                              exact absurd H (by simp)
                          · rw [if_neg c47] at H
                            exact absurd H (by simp)
                        · rw [if_neg c46] at H
                          exact absurd H (by simp)
                      · replace c43 := Bool.eq_false_iff.mpr c43
                        subst c43
                        have H1 : (if x16_2.length < 8796093022208 then ((impl_EndAt.f a0 x13_2).bind fun t230 => ((impl_behindLine.f a0 t230).bind fun t231 => (impl_LiteralAt.l0 kj34 a0 t204 t206 t231 x14_7 x15_7 (x16_2 ++ [(⟨#[]⟩ : ByteArray)])))) else (none)) = some (r1, r2, r3) := by rw [if_neg (show ¬ (false = true) by decide)] at H; exact H
                        clear H
                        have H := H1
                        clear H1
                        by_cases c56 : x16_2.length < 8796093022208
                        · rw [if_pos c56] at H
                          have LMc56 := Aside0.mk c56
                          clear c56
                          obtain ⟨y227, hy227⟩ : ∃ y_ : List ByteArray, y_ = (x16_2 ++ [(⟨#[]⟩ : ByteArray)]) := ⟨_, rfl⟩
                          replace H : ((impl_EndAt.f a0 x13_2).bind fun t230 => ((impl_behindLine.f a0 t230).bind fun t231 => (impl_LiteralAt.l0 kj34 a0 t204 t206 t231 x14_7 x15_7 y227))) = some (r1, r2, r3) := by first | (rw [hy227]; with_reducible exact H) | (have H2_ := (Option.bind_some _ _).symm.trans H; rw [hy227]; with_reducible exact H2_) | (have H2_ := (Option.bind_some _ _).symm.trans H; with_reducible exact H2_) | with_reducible exact H | (rw [hy227]; exact H) | exact H
                          have Ny227 := Aside0.mk hy227
                          clear hy227
                          replace H := Option.bind_eq_some_iff.mp H
                          obtain ⟨t230, A570, H⟩ := H
                          replace H : ((impl_behindLine.f a0 t230).bind fun t231 => (impl_LiteralAt.l0 kj34 a0 t204 t206 t231 x14_7 x15_7 y227)) = some (r1, r2, r3) := H
                          have A57 := Aside0.mk A570
                          clear A570
                          replace H := Option.bind_eq_some_iff.mp H
                          obtain ⟨t231, A580, H⟩ := H
                          replace H : (impl_LiteralAt.l0 kj34 a0 t204 t206 t231 x14_7 x15_7 y227) = some (r1, r2, r3) := H
                          have A58 := Aside0.mk A580
                          clear A580
                          have H' := Aside0.mk H
                          clear H
                          go_wp2_with (first | ((with_reducible refine gate_builtin (b := .append) (xs := #[.tmp 105, .tmp 107]) rfl ?_); at_builtin; refine Kd.R_append Kd.string (w0 := w) w.heap.size rfl (.tmp 105) (.tmp 107) 53 9 (.string ⟨#[]⟩) 16 rfl Try.underlying53 info9 rfl (by decide) (by omega) u16 x16_2 (⟨#[]⟩ : ByteArray) [.string (⟨#[]⟩ : ByteArray)] (fun _ => True) (fun _ => False) rfl rfl ?aP (fun _ hk => hk.elim) ?aF ?aO ?aB ?aS ?aL ?_; (case aP => exact rfl); (case aB => exact (by repeat (first | (with_reducible first | exact HB.out | apply below_alloc | apply pw_below_drewN | apply below_drew1) | exact HB.out))); (case aF => exact (fun _ _ => trivial)); (case aO => exact (by (with_reducible repeat (first | apply Kd.R_alloc | apply Kd.R_drewN | apply Kd.R_drew)); exact HO_16.out)); (case aS => exact (below_size (by repeat (first | (with_reducible first | exact HB.out | apply below_alloc | apply pw_below_drewN | apply below_drew1) | exact HB.out)))); (case aL => have := LMc56.out; omega); intro v228 w59 ho hb hg hat; rw [← Ny227.out] at ho; have n0_ := Aside0.mk (hb); have n1_ := Aside0.mk (ho); clear HB; clear HO_16; have HB := n0_; have HO229 := n1_; clear n0_ n1_; clear ho hb hg hat) | ((with_reducible refine gate_callee (f := 30) rfl ?_); refine goesL_ (some 112) rfl rfl Try.func30 (by kernel_rfl) rfl #[.string a0, .int .i64 x13_2] rfl (by (try simp only [List.map_toArray, List.map_cons, List.map_nil]); first | done | rfl | (simp only [List.length_drop, List.length_take]; rfl)) ?_; (with_reducible refine (impl_EndAt.calls a0 x13_2 t230 _ A57.out).mono ?_); rintro e w60 ⟨rfl, hb⟩; refine ⟨_, rfl, ?_⟩; have n0_ := Aside0.mk (Kd.R_below (by (with_reducible repeat (first | apply Kd.R_alloc | apply Kd.R_drewN | apply Kd.R_drew)); exact HO229.out) hb); have n1_ := Aside0.mk (below_step (by repeat (first | (with_reducible first | exact HB.out | apply below_alloc | apply pw_below_drewN | apply below_drew1) | exact HB.out)) hb); clear HO229; clear HB; have HO229 := n0_; have HB := n1_; clear n0_ n1_; (try clear hb); (try clear hb2); (try clear hk); (try clear hi)) | ((with_reducible refine gate_callee (f := 106) rfl ?_); refine goesL_ (some 113) rfl rfl Try.func106 (by kernel_rfl) rfl #[.string a0, .int .i64 t230] rfl (by (try simp only [List.map_toArray, List.map_cons, List.map_nil]); first | done | rfl | (simp only [List.length_drop, List.length_take]; rfl)) ?_; (with_reducible refine (impl_behindLine.calls a0 t230 t231 _ A58.out).mono ?_); rintro e w61 ⟨rfl, hb⟩; refine ⟨_, rfl, ?_⟩; have n0_ := Aside0.mk (Kd.R_below (by (with_reducible repeat (first | apply Kd.R_alloc | apply Kd.R_drewN | apply Kd.R_drew)); exact HO229.out) hb); have n1_ := Aside0.mk (below_step (by repeat (first | (with_reducible first | exact HB.out | apply below_alloc | apply pw_below_drewN | apply below_drew1) | exact HB.out)) hb); clear HO229; clear HB; have HO229 := n0_; have HB := n1_; clear n0_ n1_; (try clear hb); (try clear hb2); (try clear hk); (try clear hi)))
                          go_roundg kj34
                          case measure => have := HJ7.out; have := HK2.out; have := HJ20.out; have := HJ34.out; omega
                          case rel => exact ⟨(t231), (y227), (by first | rfl | (simp; done) | (simp [*]; done)), H', ⟨by have := HJ7.out; have := HK2.out; have := HJ20.out; have := HJ34.out; omega⟩, ⟨by (with_reducible repeat (first | apply Kd.R_alloc | apply Kd.R_drewN | apply Kd.R_drew)); exact HO229.out⟩, ⟨by repeat (first | (with_reducible first | exact HB.out | apply below_alloc | apply pw_below_drewN | apply below_drew1) | exact HB.out)⟩⟩
                        · rw [if_neg c56] at H
                          exact absurd H (by simp)
                · replace c34 := Bool.eq_false_iff.mpr c34
                  subst c34
                  have H1 : (if 0 ≤ t204 then (if t204 < (a0.size : Int) then ((impl_BlockText.f kj20 x16_2 ((bt a0 t204) == 62) t206).bind fun t218 => (some (t218, x13_2, 0))) else (none)) else (none)) = some (r1, r2, r3) := by rw [if_neg (show ¬ (false = true) by decide)] at H; exact H
                  clear H
                  have H := H1
                  clear H1
                  by_cases c62 : 0 ≤ t204
                  · rw [if_pos c62] at H
                    have c62b0 : decide (0 ≤ t204) = true := decide_eq_true c62
                    clear c62
                    by_cases c63 : t204 < (a0.size : Int)
                    · rw [if_pos c63] at H
                      have c63b0 : decide (t204 < (a0.size : Int)) = true := decide_eq_true c63
                      clear c63
                      replace H := Option.bind_eq_some_iff.mp H
                      obtain ⟨t218, A650, H⟩ := H
                      replace H : (some (t218, x13_2, 0)) = some (r1, r2, r3) := H
                      have A65 := Aside0.mk A650
                      clear A650
                      simp only [Option.some.injEq, Prod.mk.injEq] at H
                      obtain ⟨rfl, rfl, rfl⟩ := H
                      have p64 : 0 ≤ (t204 : Int) := of_decide_eq_true (by first | (with_reducible assumption) | assumption)
                      have q64 : t204 < (a0.size : Int) := of_decide_eq_true (by first | (with_reducible assumption) | assumption)
                      have hx64 := bt_at a0 t204
                      replace p64 := eq_true p64
                      replace q64 := eq_true q64
                      obtain ⟨Ao66, co66, eo66⟩ := Kd.R_slice HO_16.out
                      subst eo66
                      go_wp2_with (first | ((with_reducible refine gate_callee (f := 41) rfl ?_); refine goesL_ (some 120) rfl rfl Try.func41 (by kernel_rfl) rfl #[.slice Ao66 x16_2.length co66, .bool ((bt a0 t204) == 62), .int .i64 t206] rfl (by (try simp only [List.map_toArray, List.map_cons, List.map_nil]); first | done | rfl | (simp only [List.length_drop, List.length_take]; rfl)) ?_; (with_reducible refine (impl_BlockText.calls kj20 _ _ x16_2 ((bt a0 t204) == 62) t206 t218 _ ?side1 ?side2 A65.out).mono ?_); (case side1 => repeat (first | exact (Kd.R_reads' HO_16.out).2.2 | (with_reducible refine Kd.C_alloc ?_ _) | (with_reducible refine Kd.C_drewN ?_ _) | (with_reducible refine Kd.C_drew ?_))); (case side2 => exact (Kd.R_reads' HO_16.out).2.1); rintro e w67 ⟨rfl, hb⟩; refine ⟨_, rfl, ?_⟩; have n0_ := Aside0.mk (Kd.R_below (by (with_reducible repeat (first | apply Kd.R_alloc | apply Kd.R_drewN | apply Kd.R_drew)); exact HO_16.out) hb); have n1_ := Aside0.mk (below_step (by repeat (first | (with_reducible first | exact HB.out | apply below_alloc | apply pw_below_drewN | apply below_drew1) | exact HB.out)) hb); clear HO_16; clear HB; have HO_16 := n0_; have HB := n1_; clear n0_ n1_; (try clear hb); (try clear hb2); (try clear hk); (try clear hi)))
                      go_ret3
                      exact ⟨by first | rfl | (simp [errW_none, errW_some] <;> rfl) | (simp [*, errW_none, errW_some] <;> rfl), by repeat (first | (with_reducible first | exact HB.out | apply below_alloc | apply pw_below_drewN | apply below_drew1) | exact HB.out)⟩
                    · rw [if_neg c63] at H
                      exact absurd H (by simp)
                  · rw [if_neg c62] at H
                    exact absurd H (by simp)
  · rw [if_neg c6] at H
    have c6b0 : (t208 == 0) = false := beq_eq_false_iff_ne.mpr c6
    have c6b1 : (t208 != 0) = true := bne_iff_ne.mpr c6
    simp only [Option.some.injEq, Prod.mk.injEq] at H
    obtain ⟨rfl, rfl, rfl⟩ := H
    go_enter Try.func55, Try.ntmps55
    go_wp2_with (first | ((with_reducible refine gate_callee (f := 65) rfl ?_); refine goesL_ (some 20) rfl rfl Try.func65 (by kernel_rfl) rfl #[.string a0, .int .i64 a1] rfl (by (try simp only [List.map_toArray, List.map_cons, List.map_nil]); first | done | rfl | (simp only [List.length_drop, List.length_take]; rfl)) ?_; (with_reducible refine (impl_spot.calls a0 a1 t204 _ A4.out).mono ?_); rintro e w68 ⟨rfl, hb⟩; refine ⟨_, rfl, ?_⟩; have n0_ := Aside0.mk (below_step (by repeat (first | (with_reducible first | exact HB.out | apply below_alloc | apply pw_below_drewN | apply below_drew1) | exact HB.out)) hb); clear HB; have HB := n0_; clear n0_; (try clear hb); (try clear hb2); (try clear hk); (try clear hi)) | ((with_reducible refine gate_callee (f := 105) rfl ?_); refine goesL_ (some 24) rfl rfl Try.func105 (by kernel_rfl) rfl #[.string a0, .int .i64 t204] rfl (by (try simp only [List.map_toArray, List.map_cons, List.map_nil]); first | done | rfl | (simp only [List.length_drop, List.length_take]; rfl)) ?_; (with_reducible refine (impl_HeadAt.calls k a0 t204 t205 t206 t207 t208 _ A5.out).mono ?_); rintro e w69 ⟨rfl, hb⟩; refine ⟨_, rfl, ?_⟩; have n0_ := Aside0.mk (below_step (by repeat (first | (with_reducible first | exact HB.out | apply below_alloc | apply pw_below_drewN | apply below_drew1) | exact HB.out)) hb); clear HB; have HB := n0_; clear n0_; (try clear hb); (try clear hb2); (try clear hk); (try clear hi)))
    go_ret3
    exact ⟨by first | rfl | (simp [errW_none, errW_some] <;> rfl) | (simp [*, errW_none, errW_some] <;> rfl), by repeat (first | (with_reducible first | exact HB.out | apply below_alloc | apply pw_below_drewN | apply below_drew1) | exact HB.out)⟩

end Go.Proofs.Ytglmjmkbahfgaaa.PFnLiteral
