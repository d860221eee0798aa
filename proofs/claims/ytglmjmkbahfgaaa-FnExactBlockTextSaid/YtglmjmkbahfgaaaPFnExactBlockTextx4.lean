-- Written by a program of this session, out of the translation.
import Derived.Test.YtglmjmkbahfgaaaPFnExactBlockTextx0
import Derived.Test.YtglmjmkbahfgaaaPFnExactBlockTextx3
namespace Go.Proofs.Ytglmjmkbahfgaaa.PFnExactBlockText
open Go.RowKit Go.Proofs.YtglmjmkbahfgaaaW.PrintWords Go.Proofs.YtglmjmkbahfgaaaW.PrintLast Go.Proofs.YtglmjmkbahfgaaaW.PrintMore
attribute [local go_sem] max2_int min2_int max_two min_two max_three min_three max_four min_four   -- for this text's walks alone
set_option linter.unusedVariables false
set_option linter.unusedSimpArgs false

/-! ### spec_BlockText: function 45 -/
mutual
def spec_BlockText.j1 : Nat → List ByteArray → Bool → Int → Int → Option (ByteArray)
  | 0, _, _, _, _ => none
  | k + 1, x0, x1, x2, x7 => if x1 = true then (if 0 ≤ x7 then (if x7 ≤ (x0.length : Int) then ((spec_FoldBlock.f k (x0.take (x7 : Int).toNat)).bind fun t125 => (spec_BlockText.j3 k x0 x2 x7 t125)) else (none)) else (none)) else (if 0 ≤ x7 then (if x7 ≤ (x0.length : Int) then (spec_BlockText.l1 k x0 x2 x7 (⟨#[]⟩ : ByteArray) (x0.take (x7 : Int).toNat) ((x0.take (x7 : Int).toNat).length : Int) 0) else (none)) else (none))
def spec_BlockText.j3 : Nat → List ByteArray → Int → Int → ByteArray → Option (ByteArray)
  | 0, _, _, _, _ => none
  | k + 1, x0, x2, x7, x8 => if x7 > 0 then (spec_BlockText.j4 k x0 x2 x7 x8 (x2 != 1)) else (spec_BlockText.j4 k x0 x2 x7 x8 false)
def spec_BlockText.j4 : Nat → List ByteArray → Int → Int → ByteArray → Bool → Option (ByteArray)
  | 0, _, _, _, _, _ => none
  | k + 1, x0, x2, x7, x8, x53 => if x53 = true then (if x8.size + 1 ≤ 9223372036854775807 then (spec_BlockText.j5 k x0 x2 x7 (x8 ++ (⟨#[10]⟩ : ByteArray))) else (none)) else (spec_BlockText.j5 k x0 x2 x7 x8)
def spec_BlockText.j5 : Nat → List ByteArray → Int → Int → ByteArray → Option (ByteArray)
  | 0, _, _, _, _ => none
  | k + 1, x0, x2, x7, x8 => spec_BlockText.l2 k x0 x2 x8 x7
def spec_BlockText.l2 : Nat → List ByteArray → Int → ByteArray → Int → Option (ByteArray)
  | 0, _, _, _, _ => none
  | k + 1, x0, x2, x8, x11 => if x11 < (x0.length : Int) then (if x2 = 2 then (if x8.size + 1 ≤ 9223372036854775807 then (spec_BlockText.l2 k x0 x2 (x8 ++ (⟨#[10]⟩ : ByteArray)) (wrap64 (x11 + 1))) else (none)) else (some x8)) else (some x8)
def spec_BlockText.l1 : Nat → List ByteArray → Int → Int → ByteArray → List ByteArray → Int → Int → Option (ByteArray)
  | 0, _, _, _, _, _, _, _ => none
  | k + 1, x0, x2, x7, x8, x33, x34, x35 => if x35 < x34 then (if 0 ≤ x35 then (if x35 < (x33.length : Int) then (if x35 > 0 then (if x8.size + 1 ≤ 9223372036854775807 then (if (x8 ++ (⟨#[10]⟩ : ByteArray)).size + (rdOf ByteArray.empty x33 x35).size ≤ 9223372036854775807 then (spec_BlockText.l1 k x0 x2 x7 ((x8 ++ (⟨#[10]⟩ : ByteArray)) ++ (rdOf ByteArray.empty x33 x35)) x33 x34 (wrap64 (x35 + 1))) else (none)) else (none)) else (if x8.size + (rdOf ByteArray.empty x33 x35).size ≤ 9223372036854775807 then (spec_BlockText.l1 k x0 x2 x7 (x8 ++ (rdOf ByteArray.empty x33 x35)) x33 x34 (wrap64 (x35 + 1))) else (none))) else (none)) else (none)) else (spec_BlockText.j3 k x0 x2 x7 x8)
def spec_BlockText.l0 : Nat → List ByteArray → Bool → Int → Int → Option (ByteArray)
  | 0, _, _, _, _ => none
  | k + 1, x0, x1, x2, x7 => if x7 > 0 then (if 0 ≤ (wrap64 (x7 - 1)) then (if (wrap64 (x7 - 1)) < (x0.length : Int) then (if (rdOf ByteArray.empty x0 (wrap64 (x7 - 1))).toList = ([] : List UInt8) then (spec_BlockText.l0 k x0 x1 x2 (wrap64 (x7 - 1))) else (spec_BlockText.j1 k x0 x1 x2 x7)) else (none)) else (none)) else (spec_BlockText.j1 k x0 x1 x2 x7)
end
def spec_BlockText.f (k : Nat) (l0 : List ByteArray) (a1 : Bool) (a2 : Int) : Option (ByteArray) := spec_BlockText.l0 k l0 a1 a2 (l0.length : Int)
theorem spec_BlockText.mono_l : ∀ k, (∀ y0 y1 y2 y3, LeO (spec_BlockText.j1 k y0 y1 y2 y3) (spec_BlockText.j1 (k + 1) y0 y1 y2 y3)) ∧ (∀ y0 y1 y2 y3, LeO (spec_BlockText.j3 k y0 y1 y2 y3) (spec_BlockText.j3 (k + 1) y0 y1 y2 y3)) ∧ (∀ y0 y1 y2 y3 y4, LeO (spec_BlockText.j4 k y0 y1 y2 y3 y4) (spec_BlockText.j4 (k + 1) y0 y1 y2 y3 y4)) ∧ (∀ y0 y1 y2 y3, LeO (spec_BlockText.j5 k y0 y1 y2 y3) (spec_BlockText.j5 (k + 1) y0 y1 y2 y3)) ∧ (∀ y0 y1 y2 y3, LeO (spec_BlockText.l2 k y0 y1 y2 y3) (spec_BlockText.l2 (k + 1) y0 y1 y2 y3)) ∧ (∀ y0 y1 y2 y3 y4 y5 y6, LeO (spec_BlockText.l1 k y0 y1 y2 y3 y4 y5 y6) (spec_BlockText.l1 (k + 1) y0 y1 y2 y3 y4 y5 y6)) ∧ (∀ y0 y1 y2 y3, LeO (spec_BlockText.l0 k y0 y1 y2 y3) (spec_BlockText.l0 (k + 1) y0 y1 y2 y3))
  | 0 => ⟨fun _ _ _ _ r h => by simp [spec_BlockText.j1] at h, fun _ _ _ _ r h => by simp [spec_BlockText.j3] at h, fun _ _ _ _ _ r h => by simp [spec_BlockText.j4] at h, fun _ _ _ _ r h => by simp [spec_BlockText.j5] at h, fun _ _ _ _ r h => by simp [spec_BlockText.l2] at h, fun _ _ _ _ _ _ _ r h => by simp [spec_BlockText.l1] at h, fun _ _ _ _ r h => by simp [spec_BlockText.l0] at h⟩
  | k + 1 => by
    obtain ⟨ih0, ih1, ih2, ih3, ih4, ih5, ih6⟩ := spec_BlockText.mono_l k
    refine ⟨?_, ?_, ?_, ?_, ?_, ?_, ?_⟩
    · intro y0 y1 y2 y3
      unfold spec_BlockText.j1
      repeat' first
      | (with_reducible exact ih0 _ _ _ _)
      | (with_reducible exact ih1 _ _ _ _)
      | (with_reducible exact ih2 _ _ _ _ _)
      | (with_reducible exact ih3 _ _ _ _)
      | (with_reducible exact ih4 _ _ _ _)
      | (with_reducible exact ih5 _ _ _ _ _ _ _)
      | (with_reducible exact ih6 _ _ _ _)
      | (with_reducible exact spec_FoldBlock.mono _ _)
      | (with_reducible exact LeO.refl _)
      | (with_reducible exact LeO.none _)
      | (with_reducible refine LeO.ite ?_ ?_)
      | (with_reducible refine LeO.bind ?_ (fun _ => ?_))
      | exact ih0 _ _ _ _
      | exact ih1 _ _ _ _
      | exact ih2 _ _ _ _ _
      | exact ih3 _ _ _ _
      | exact ih4 _ _ _ _
      | exact ih5 _ _ _ _ _ _ _
      | exact ih6 _ _ _ _
      | exact spec_FoldBlock.mono _ _
      | exact LeO.none _
      | refine LeO.ite ?_ ?_
      | refine LeO.bind ?_ (fun _ => ?_)
    · intro y0 y1 y2 y3
      unfold spec_BlockText.j3
      repeat' first
      | (with_reducible exact ih0 _ _ _ _)
      | (with_reducible exact ih1 _ _ _ _)
      | (with_reducible exact ih2 _ _ _ _ _)
      | (with_reducible exact ih3 _ _ _ _)
      | (with_reducible exact ih4 _ _ _ _)
      | (with_reducible exact ih5 _ _ _ _ _ _ _)
      | (with_reducible exact ih6 _ _ _ _)
      | (with_reducible exact spec_FoldBlock.mono _ _)
      | (with_reducible exact LeO.refl _)
      | (with_reducible exact LeO.none _)
      | (with_reducible refine LeO.ite ?_ ?_)
      | (with_reducible refine LeO.bind ?_ (fun _ => ?_))
      | exact ih0 _ _ _ _
      | exact ih1 _ _ _ _
      | exact ih2 _ _ _ _ _
      | exact ih3 _ _ _ _
      | exact ih4 _ _ _ _
      | exact ih5 _ _ _ _ _ _ _
      | exact ih6 _ _ _ _
      | exact spec_FoldBlock.mono _ _
      | exact LeO.none _
      | refine LeO.ite ?_ ?_
      | refine LeO.bind ?_ (fun _ => ?_)
    · intro y0 y1 y2 y3 y4
      unfold spec_BlockText.j4
      repeat' first
      | (with_reducible exact ih0 _ _ _ _)
      | (with_reducible exact ih1 _ _ _ _)
      | (with_reducible exact ih2 _ _ _ _ _)
      | (with_reducible exact ih3 _ _ _ _)
      | (with_reducible exact ih4 _ _ _ _)
      | (with_reducible exact ih5 _ _ _ _ _ _ _)
      | (with_reducible exact ih6 _ _ _ _)
      | (with_reducible exact spec_FoldBlock.mono _ _)
      | (with_reducible exact LeO.refl _)
      | (with_reducible exact LeO.none _)
      | (with_reducible refine LeO.ite ?_ ?_)
      | (with_reducible refine LeO.bind ?_ (fun _ => ?_))
      | exact ih0 _ _ _ _
      | exact ih1 _ _ _ _
      | exact ih2 _ _ _ _ _
      | exact ih3 _ _ _ _
      | exact ih4 _ _ _ _
      | exact ih5 _ _ _ _ _ _ _
      | exact ih6 _ _ _ _
      | exact spec_FoldBlock.mono _ _
      | exact LeO.none _
      | refine LeO.ite ?_ ?_
      | refine LeO.bind ?_ (fun _ => ?_)
    · intro y0 y1 y2 y3
      unfold spec_BlockText.j5
      repeat' first
      | (with_reducible exact ih0 _ _ _ _)
      | (with_reducible exact ih1 _ _ _ _)
      | (with_reducible exact ih2 _ _ _ _ _)
      | (with_reducible exact ih3 _ _ _ _)
      | (with_reducible exact ih4 _ _ _ _)
      | (with_reducible exact ih5 _ _ _ _ _ _ _)
      | (with_reducible exact ih6 _ _ _ _)
      | (with_reducible exact spec_FoldBlock.mono _ _)
      | (with_reducible exact LeO.refl _)
      | (with_reducible exact LeO.none _)
      | (with_reducible refine LeO.ite ?_ ?_)
      | (with_reducible refine LeO.bind ?_ (fun _ => ?_))
      | exact ih0 _ _ _ _
      | exact ih1 _ _ _ _
      | exact ih2 _ _ _ _ _
      | exact ih3 _ _ _ _
      | exact ih4 _ _ _ _
      | exact ih5 _ _ _ _ _ _ _
      | exact ih6 _ _ _ _
      | exact spec_FoldBlock.mono _ _
      | exact LeO.none _
      | refine LeO.ite ?_ ?_
      | refine LeO.bind ?_ (fun _ => ?_)
    · intro y0 y1 y2 y3
      unfold spec_BlockText.l2
      repeat' first
      | (with_reducible exact ih0 _ _ _ _)
      | (with_reducible exact ih1 _ _ _ _)
      | (with_reducible exact ih2 _ _ _ _ _)
      | (with_reducible exact ih3 _ _ _ _)
      | (with_reducible exact ih4 _ _ _ _)
      | (with_reducible exact ih5 _ _ _ _ _ _ _)
      | (with_reducible exact ih6 _ _ _ _)
      | (with_reducible exact spec_FoldBlock.mono _ _)
      | (with_reducible exact LeO.refl _)
      | (with_reducible exact LeO.none _)
      | (with_reducible refine LeO.ite ?_ ?_)
      | (with_reducible refine LeO.bind ?_ (fun _ => ?_))
      | exact ih0 _ _ _ _
      | exact ih1 _ _ _ _
      | exact ih2 _ _ _ _ _
      | exact ih3 _ _ _ _
      | exact ih4 _ _ _ _
      | exact ih5 _ _ _ _ _ _ _
      | exact ih6 _ _ _ _
      | exact spec_FoldBlock.mono _ _
      | exact LeO.none _
      | refine LeO.ite ?_ ?_
      | refine LeO.bind ?_ (fun _ => ?_)
    · intro y0 y1 y2 y3 y4 y5 y6
      unfold spec_BlockText.l1
      repeat' first
      | (with_reducible exact ih0 _ _ _ _)
      | (with_reducible exact ih1 _ _ _ _)
      | (with_reducible exact ih2 _ _ _ _ _)
      | (with_reducible exact ih3 _ _ _ _)
      | (with_reducible exact ih4 _ _ _ _)
      | (with_reducible exact ih5 _ _ _ _ _ _ _)
      | (with_reducible exact ih6 _ _ _ _)
      | (with_reducible exact spec_FoldBlock.mono _ _)
      | (with_reducible exact LeO.refl _)
      | (with_reducible exact LeO.none _)
      | (with_reducible refine LeO.ite ?_ ?_)
      | (with_reducible refine LeO.bind ?_ (fun _ => ?_))
      | exact ih0 _ _ _ _
      | exact ih1 _ _ _ _
      | exact ih2 _ _ _ _ _
      | exact ih3 _ _ _ _
      | exact ih4 _ _ _ _
      | exact ih5 _ _ _ _ _ _ _
      | exact ih6 _ _ _ _
      | exact spec_FoldBlock.mono _ _
      | exact LeO.none _
      | refine LeO.ite ?_ ?_
      | refine LeO.bind ?_ (fun _ => ?_)
    · intro y0 y1 y2 y3
      unfold spec_BlockText.l0
      repeat' first
      | (with_reducible exact ih0 _ _ _ _)
      | (with_reducible exact ih1 _ _ _ _)
      | (with_reducible exact ih2 _ _ _ _ _)
      | (with_reducible exact ih3 _ _ _ _)
      | (with_reducible exact ih4 _ _ _ _)
      | (with_reducible exact ih5 _ _ _ _ _ _ _)
      | (with_reducible exact ih6 _ _ _ _)
      | (with_reducible exact spec_FoldBlock.mono _ _)
      | (with_reducible exact LeO.refl _)
      | (with_reducible exact LeO.none _)
      | (with_reducible refine LeO.ite ?_ ?_)
      | (with_reducible refine LeO.bind ?_ (fun _ => ?_))
      | exact ih0 _ _ _ _
      | exact ih1 _ _ _ _
      | exact ih2 _ _ _ _ _
      | exact ih3 _ _ _ _
      | exact ih4 _ _ _ _
      | exact ih5 _ _ _ _ _ _ _
      | exact ih6 _ _ _ _
      | exact spec_FoldBlock.mono _ _
      | exact LeO.none _
      | refine LeO.ite ?_ ?_
      | refine LeO.bind ?_ (fun _ => ?_)
theorem spec_BlockText.mono : ∀ a0 a1 a2 k, LeO (spec_BlockText.f k a0 a1 a2) (spec_BlockText.f (k + 1) a0 a1 a2) := by
  intro a0 a1 a2 k
  obtain ⟨ih0, ih1, ih2, ih3, ih4, ih5, ih6⟩ := spec_BlockText.mono_l k
  unfold spec_BlockText.f
  repeat' first
      | (with_reducible exact ih0 _ _ _ _)
      | (with_reducible exact ih1 _ _ _ _)
      | (with_reducible exact ih2 _ _ _ _ _)
      | (with_reducible exact ih3 _ _ _ _)
      | (with_reducible exact ih4 _ _ _ _)
      | (with_reducible exact ih5 _ _ _ _ _ _ _)
      | (with_reducible exact ih6 _ _ _ _)
      | (with_reducible exact spec_FoldBlock.mono _ _)
      | (with_reducible exact LeO.refl _)
      | (with_reducible exact LeO.none _)
      | (with_reducible refine LeO.ite ?_ ?_)
      | (with_reducible refine LeO.bind ?_ (fun _ => ?_))
      | exact ih0 _ _ _ _
      | exact ih1 _ _ _ _
      | exact ih2 _ _ _ _ _
      | exact ih3 _ _ _ _
      | exact ih4 _ _ _ _
      | exact ih5 _ _ _ _ _ _ _
      | exact ih6 _ _ _ _
      | exact spec_FoldBlock.mono _ _
      | exact LeO.none _
      | refine LeO.ite ?_ ?_
      | refine LeO.bind ?_ (fun _ => ?_)
set_option maxHeartbeats 8000000 in
set_option maxRecDepth 100000 in
theorem spec_BlockText.calls (k : Nat) (A0 : Option Addr) (c0 : Nat) (l0 : List ByteArray) (a1 : Bool) (a2 : Int) (r : ByteArray) (w : World) (hr0 : Kd.C Kd.string w A0 l0.length l0) (hc0 : l0.length ≤ c0) (h : spec_BlockText.f k l0 a1 a2 = some r) :
    Calls Try.prog 45 #[.slice A0 l0.length c0, .bool a1, .int .i64 a2] w fun e w' => e = .returned (.string r) ∧ Drawn0 w w' := by
  have HR0 := Aside0.mk hr0
  have HC0 := Aside0.mk hc0
  clear hr0 hc0
  have H : (spec_BlockText.l0 k l0 a1 a2 (l0.length : Int)) = some r := h
  clear h
  have HC4 := Aside0.mk H
  clear H
  go_enter Try.func45, Try.ntmps45
  go_upto_block 0 with (fail)
  go_cut [7] (fun v7 wc => ∃ (kq : Nat) (x7_3 : Int), v7 = .int .i64 x7_3 ∧ Aside0 (spec_BlockText.j1 kq l0 a1 a2 x7_3 = some r) ∧ Aside0 (kq ≤ k) ∧ Drawn0 w wc)
  case first =>
    have H := HC4.out
    clear HC4
    have H' := Aside0.mk H
    clear H
    go_wp2
    go_loopg [7] k (fun kq v7 w' => ∃ (x7_1 : Int), v7 = .int .i64 x7_1 ∧ Aside0 (spec_BlockText.l0 kq l0 a1 a2 x7_1 = some r) ∧ Aside0 (kq ≤ k) ∧ Drawn0 w w')
    case atStart => exact ⟨((l0.length : Int)), (by first | rfl | (simp; done) | (simp [*]; done)), H', ⟨Nat.le_refl _⟩, by repeat (first | exact Drawn0.refl _ | apply Drawn0.step)⟩
    case round =>
      clear H'
      try clear p2
      try clear c4
      obtain ⟨x7_1, rfl, HA, HK1, ⟨m1, rfl⟩⟩ := hrel
      cases gk with
      | zero => exact absurd HA.out (by simp [spec_BlockText.l0])
      | succ k1 =>
        have H := HA.out
        clear HA
        simp only [spec_BlockText.l0] at H
        by_cases c5 : x7_1 > 0
        · rw [if_pos c5] at H
          have c5b0 : decide (0 < x7_1) = true := decide_eq_true c5
          clear c5
          (first | rw [c5b0] | (simp only [i64_w, i32_w]; rw [c5b0]) | skip)
          obtain ⟨ji6, hji6⟩ : ∃ j_ : Int, (wrap64 (x7_1 - 1)) = j_ := ⟨_, rfl⟩
          replace H : (if 0 ≤ (ji6) then (if (ji6) < (l0.length : Int) then (if (rdOf ByteArray.empty l0 (ji6)).toList = ([] : List UInt8) then (spec_BlockText.l0 k1 l0 a1 a2 ji6) else (spec_BlockText.j1 k1 l0 a1 a2 x7_1)) else (none)) else (none)) = some r := by first | (rw [hji6] at H; exact H) | (simp only [hji6] at H ⊢; exact H)
          have hji6w : (IntKind.i64.wrap (x7_1 - 1)) = ji6 := (i64_w _).trans hji6
          by_cases c7 : 0 ≤ (ji6)
          · rw [if_pos c7] at H
            have c7b0 : decide (0 ≤ (ji6)) = true := decide_eq_true c7
            clear c7
            by_cases c8 : (ji6) < (l0.length : Int)
            · rw [if_pos c8] at H
              have c8b0 : decide ((ji6) < (l0.length : Int)) = true := decide_eq_true c8
              clear c8
              by_cases c9 : (rdOf ByteArray.empty l0 (ji6)).toList = ([] : List UInt8)
              · rw [if_pos c9] at H
                have c9b0 : ((rdOf ByteArray.empty l0 (ji6)).toList == ([] : List UInt8)) = true := beq_iff_eq.mpr c9
                have c9b1 : ((rdOf ByteArray.empty l0 (ji6)).toList != ([] : List UInt8)) = false := bne_eq_false_iff_eq.mpr c9
                clear c9
                have H' := Aside0.mk H
                clear H
                have p123 : 0 ≤ ((ji6) : Int) := of_decide_eq_true (by first | (with_reducible assumption) | assumption)
                have q123 : (ji6) < (l0.length : Int) := of_decide_eq_true (by first | (with_reducible assumption) | assumption)
                obtain ⟨ad123, e123, hx123_0⟩ := Kd.at_string HR0.out (ji6) p123 q123
                cases e123
                replace p123 := eq_true p123
                replace q123 := eq_true q123
                go_wp2
                go_roundg k1
                case measure => have := HK1.out; omega
                case rel => exact ⟨(ji6), (by first | rfl | (simp; done) | (simp only [← hji6] <;> (first | rfl | simp)) | (simp [*]; done)), H', ⟨by have := HK1.out; omega⟩, by repeat (first | exact Drawn0.refl _ | apply Drawn0.step)⟩
              · rw [if_neg c9] at H
                have c9b0 : ((rdOf ByteArray.empty l0 (ji6)).toList == ([] : List UInt8)) = false := beq_eq_false_iff_ne.mpr c9
                have c9b1 : ((rdOf ByteArray.empty l0 (ji6)).toList != ([] : List UInt8)) = true := bne_iff_ne.mpr c9
                have H' := Aside0.mk H
                clear H
                have p123 : 0 ≤ ((ji6) : Int) := of_decide_eq_true (by first | (with_reducible assumption) | assumption)
                have q123 : (ji6) < (l0.length : Int) := of_decide_eq_true (by first | (with_reducible assumption) | assumption)
                obtain ⟨ad123, e123, hx123_0⟩ := Kd.at_string HR0.out (ji6) p123 q123
                cases e123
                replace p123 := eq_true p123
                replace q123 := eq_true q123
                go_wp2
                go_meet
                case rel => exact ⟨_, (x7_1), (by first | rfl | (simp; done) | (simp [*]; done)), H', ⟨by have := HK1.out; first | omega | exact Nat.le_refl _⟩, by repeat (first | exact Drawn0.refl _ | apply Drawn0.step)⟩
            · rw [if_neg c8] at H
              exact absurd H (by simp)
          · rw [if_neg c7] at H
            exact absurd H (by simp)
        · rw [if_neg c5] at H
          have c5b0 : decide (0 < x7_1) = false := decide_eq_false c5
          clear c5
          (first | rw [c5b0] | (simp only [i64_w, i32_w]; rw [c5b0]) | skip)
          have H' := Aside0.mk H
          clear H
          go_wp2
          go_meet
          case rel => exact ⟨_, (x7_1), (by first | rfl | (simp; done) | (simp [*]; done)), H', ⟨by have := HK1.out; first | omega | exact Nat.le_refl _⟩, by repeat (first | exact Drawn0.refl _ | apply Drawn0.step)⟩
  case rest =>
    clear HC4
    try clear p1
    try clear q1
    try clear hx1
    try clear p2
    try clear c4
    try clear c5
    try clear c5b0
    try clear p6
    try clear c7
    try clear c7b0
    try clear c8
    try clear c8b0
    try clear c9
    try clear c9b0
    try clear c9b1
    try clear hx123_0
    try clear p123
    try clear p2
    try clear q123
    obtain ⟨kq, x7_3, rfl, HA, HJ3, ⟨mc3, rfl⟩⟩ := hcut
    cases kq with
    | zero => exact absurd HA.out (by simp [spec_BlockText.j1])
    | succ kj3 =>
      have H := HA.out
      clear HA
      simp only [spec_BlockText.j1] at H
      have HC10 := Aside0.mk H
      clear H
      go_upto_if 26 with (fail)
      go_cut [8] (fun v8 wc => ∃ (kq : Nat) (x8_9 : ByteArray), v8 = .string x8_9 ∧ Aside0 (spec_BlockText.j3 kq l0 a2 x7_3 x8_9 = some r) ∧ Aside0 (kq ≤ kj3) ∧ Drawn0 w wc)
      case first =>
        have H := HC10.out
        clear HC10
        by_cases c11 : a1 = true
        · subst c11
          have H1 : (if 0 ≤ x7_3 then (if x7_3 ≤ (l0.length : Int) then ((spec_FoldBlock.f kj3 (l0.take (x7_3 : Int).toNat)).bind fun t125 => (spec_BlockText.j3 kj3 l0 a2 x7_3 t125)) else (none)) else (none)) = some r := by rw [if_pos rfl] at H; exact H
          clear H
          have H := H1
          clear H1
          by_cases c12 : 0 ≤ x7_3
          · rw [if_pos c12] at H
            have c12b0 := eq_true c12
            have c12b1 : decide (0 ≤ x7_3) = true := decide_eq_true c12
            clear c12
            by_cases c13 : x7_3 ≤ (l0.length : Int)
            · rw [if_pos c13] at H
              have c13b0 := eq_true c13
              have c13b1 : decide (x7_3 ≤ (l0.length : Int)) = true := decide_eq_true c13
              clear c13
              replace H := Option.bind_eq_some_iff.mp H
              obtain ⟨t125, A140, H⟩ := H
              replace H : (spec_BlockText.j3 kj3 l0 a2 x7_3 t125) = some r := H
              have A14 := Aside0.mk A140
              clear A140
              have H' := Aside0.mk H
              clear H
              obtain ⟨i015, hi015, _, hsz15, _⟩ := info_parts info9
              obtain ⟨hcut15, hA15, hC15⟩ := print_take_of (P := Try.prog) Value.string (⟨#[]⟩ : ByteArray) 53 9 .i64 Try.underlying53 hi015 hsz15 A0 c0 l0 x7_3 (of_decide_eq_true (by first | (with_reducible assumption) | assumption)) (of_decide_eq_true (by first | (with_reducible assumption) | assumption)) HC0.out
              try have HL_x7_3 := Aside0.mk (show 0 ≤ x7_3 ∧ x7_3 ≤ (l0.length : Int) from ⟨of_decide_eq_true (by assumption), of_decide_eq_true (by assumption)⟩)
              have HR124 := Aside0.mk (Kd.C_of_reads (h1 := fun _ => rfl) (hA15 _ (Kd.reads_of_C HR0.out)))
              have HC124 := Aside0.mk hC15
              clear hA15 hC15 hi015 hsz15
              go_wp2_with (first | ((with_reducible refine gate_callee (f := 99) rfl ?_); refine goesL_ (some 30) rfl rfl Try.func99 (by kernel_rfl) rfl #[.slice A0 (l0.take (x7_3 : Int).toNat).length c0] rfl (by (try simp only [List.map_toArray, List.map_cons, List.map_nil]); first | done | (rw [show (l0.take (x7_3 : Int).toNat).length = x7_3.toNat from (by rw [List.length_take]; have h_ : (x7_3 : Int) ≤ (l0.length : Int) := of_decide_eq_true (by first | (with_reducible assumption) | assumption); omega)] <;> rfl) | rfl | (simp only [List.length_drop, List.length_take]; rfl)) ?_; (with_reducible refine (spec_FoldBlock.calls kj3 _ _ (l0.take (x7_3 : Int).toNat) t125 _ ?side1 ?side2 A14.out).mono ?_); (case side1 => repeat (first | exact HR124.out | (with_reducible refine Kd.C_alloc ?_ _) | (with_reducible refine Kd.C_drewN ?_ _) | (with_reducible refine Kd.C_drew ?_))); (case side2 => exact HC124.out); rintro e w' ⟨rfl, ⟨nd, rfl⟩⟩; refine ⟨_, rfl, ?_⟩))
              go_meet
              case rel => exact ⟨_, (t125), (by first | rfl | (simp; done) | (simp [*]; done)), H', ⟨by have := HJ3.out; first | omega | exact Nat.le_refl _⟩, by repeat (first | exact Drawn0.refl _ | apply Drawn0.step)⟩
            · rw [if_neg c13] at H
              exact absurd H (by simp)
          · rw [if_neg c12] at H
            exact absurd H (by simp)
        · replace c11 := Bool.eq_false_iff.mpr c11
          subst c11
          have H1 : (if 0 ≤ x7_3 then (if x7_3 ≤ (l0.length : Int) then (spec_BlockText.l1 kj3 l0 a2 x7_3 (⟨#[]⟩ : ByteArray) (l0.take (x7_3 : Int).toNat) ((l0.take (x7_3 : Int).toNat).length : Int) 0) else (none)) else (none)) = some r := by rw [if_neg (show ¬ (false = true) by decide)] at H; exact H
          clear H
          have H := H1
          clear H1
          by_cases c16 : 0 ≤ x7_3
          · rw [if_pos c16] at H
            have c16b0 := eq_true c16
            have c16b1 : decide (0 ≤ x7_3) = true := decide_eq_true c16
            clear c16
            by_cases c17 : x7_3 ≤ (l0.length : Int)
            · rw [if_pos c17] at H
              have c17b0 := eq_true c17
              have c17b1 : decide (x7_3 ≤ (l0.length : Int)) = true := decide_eq_true c17
              clear c17
              have H' := Aside0.mk H
              clear H
              obtain ⟨i018, hi018, _, hsz18, _⟩ := info_parts info9
              obtain ⟨hcut18, hA18, hC18⟩ := print_take_of (P := Try.prog) Value.string (⟨#[]⟩ : ByteArray) 53 9 .i64 Try.underlying53 hi018 hsz18 A0 c0 l0 x7_3 (of_decide_eq_true (by first | (with_reducible assumption) | assumption)) (of_decide_eq_true (by first | (with_reducible assumption) | assumption)) HC0.out
              try have HL_x7_3 := Aside0.mk (show 0 ≤ x7_3 ∧ x7_3 ≤ (l0.length : Int) from ⟨of_decide_eq_true (by assumption), of_decide_eq_true (by assumption)⟩)
              have HR126 := Aside0.mk (Kd.C_of_reads (h1 := fun _ => rfl) (hA18 _ (Kd.reads_of_C HR0.out)))
              have HC126 := Aside0.mk hC18
              clear hA18 hC18 hi018 hsz18
              go_wp2
              go_loopg [8, 35] kj3 (fun kq v8 v35 w' => ∃ (x8_2 : ByteArray) (x35_2 : Int), v8 = .string x8_2 ∧ v35 = .int .i64 x35_2 ∧ Aside0 (spec_BlockText.l1 kq l0 a2 x7_3 x8_2 (l0.take (x7_3 : Int).toNat) ((l0.take (x7_3 : Int).toNat).length : Int) x35_2 = some r) ∧ Aside0 (kq ≤ kj3) ∧ Drawn0 w w')
              case atStart => exact ⟨((⟨#[]⟩ : ByteArray)), (0), (by first | rfl | (simp; done) | (simp [*]; done)), (by first | rfl | (simp; done) | (simp [*]; done)), H', ⟨Nat.le_refl _⟩, by repeat (first | exact Drawn0.refl _ | apply Drawn0.step)⟩
              case round =>
                clear H'
                try clear c1
                try clear p1
                try clear q1
                try clear hx1
                try clear p2
                try clear c3
                try clear c4
                try clear c5
                try clear c5b0
                try clear p6
                try clear c7
                try clear c7b0
                try clear c8
                try clear c8b0
                try clear c9
                try clear c9b0
                try clear c9b1
                try clear c11
                try clear c12
                try clear c12b0
                try clear c12b1
                try clear p12
                try clear q12
                try clear hx12
                try clear c13
                try clear c13b0
                try clear c13b1
                try clear c16
                try clear c16b0
                try clear c16b1
                try clear c17
                try clear c17b0
                try clear c17b1
                try clear hx123_0
                try clear p1
                try clear p123
                try clear p2
                try clear p6
                try clear q1
                try clear q123
                obtain ⟨x8_2, x35_2, rfl, rfl, HA, HK2, ⟨m2, rfl⟩⟩ := hrel
                cases gk with
                | zero => exact absurd HA.out (by simp [spec_BlockText.l1])
                | succ k2 =>
                  have H := HA.out
                  clear HA
                  simp only [spec_BlockText.l1] at H
                  by_cases c19 : x35_2 < ((l0.take (x7_3 : Int).toNat).length : Int)
                  · rw [if_pos c19] at H
                    have c19b0 : decide (x35_2 < ((l0.take (x7_3 : Int).toNat).length : Int)) = true := decide_eq_true c19
                    try have c19b7 : decide (x35_2 < max x7_3 0) = true := decide_eq_true (by have h1 := of_decide_eq_true c19b0; have h2 := HL_x7_3.out; rw [List.length_take] at h1; omega)
                    try have c19b9 : (x35_2 < max x7_3 0) = True := eq_true (of_decide_eq_true c19b7)
                    try have c19b8 : (max x7_3 0 ≤ x35_2) = False := eq_false (by have h1 := of_decide_eq_true c19b7; omega)
                    clear c19
                    (first | rw [c19b0] | (simp only [i64_w, i32_w]; rw [c19b0]) | skip)
                    by_cases c20 : 0 ≤ x35_2
                    · rw [if_pos c20] at H
                      have c20b0 : decide (0 ≤ x35_2) = true := decide_eq_true c20
                      clear c20
                      by_cases c21 : x35_2 < ((l0.take (x7_3 : Int).toNat).length : Int)
                      · rw [if_pos c21] at H
                        have c21b0 : decide (x35_2 < ((l0.take (x7_3 : Int).toNat).length : Int)) = true := decide_eq_true c21
                        try have c21b7 : decide (x35_2 < max x7_3 0) = true := decide_eq_true (by have h1 := of_decide_eq_true c21b0; have h2 := HL_x7_3.out; rw [List.length_take] at h1; omega)
                        try have c21b9 : (x35_2 < max x7_3 0) = True := eq_true (of_decide_eq_true c21b7)
                        try have c21b8 : (max x7_3 0 ≤ x35_2) = False := eq_false (by have h1 := of_decide_eq_true c21b7; omega)
                        clear c21
                        by_cases c22 : x35_2 > 0
                        · rw [if_pos c22] at H
                          have c22b0 : decide (0 < x35_2) = true := decide_eq_true c22
                          clear c22
                          by_cases c23 : x8_2.size + 1 ≤ 9223372036854775807
                          · rw [if_pos c23] at H
                            have c23b0 := eq_true c23
                            have c23b1 : decide (x8_2.size + 1 ≤ 9223372036854775807) = true := decide_eq_true c23
                            try have c23b2 : (9223372036854775807 < x8_2.size + 1) = False := eq_false (Nat.not_lt.2 c23)
                            try (have c23b4 := c23b2; simp only [ByteArray.size_extract, Nat.min_self] at c23b4)
                            try (have c23b4 := c23b2; simp only [ByteArray.size_extract, Nat.min_self] at c23b4)
                            by_cases c24 : (x8_2 ++ (⟨#[10]⟩ : ByteArray)).size + (rdOf ByteArray.empty (l0.take (x7_3 : Int).toNat) x35_2).size ≤ 9223372036854775807
                            · rw [if_pos c24] at H
                              have c24b0 := eq_true c24
                              have c24b1 : decide ((x8_2 ++ (⟨#[10]⟩ : ByteArray)).size + (rdOf ByteArray.empty (l0.take (x7_3 : Int).toNat) x35_2).size ≤ 9223372036854775807) = true := decide_eq_true c24
                              try have c24b2 : (9223372036854775807 < (x8_2 ++ (⟨#[10]⟩ : ByteArray)).size + (rdOf ByteArray.empty (l0.take (x7_3 : Int).toNat) x35_2).size) = False := eq_false (Nat.not_lt.2 c24)
                              try have c24b5 : (9223372036854775807 < x8_2.size + 1 + (rdOf ByteArray.empty (l0.take (x7_3 : Int).toNat) x35_2).size) = False := by (have q := c24b2; simp only [ByteArray.size_append] at q; exact q)
                              try (have c24b4 := c24b2; simp only [ByteArray.size_extract, Nat.min_self] at c24b4)
                              try have c24b5 : (9223372036854775807 < x8_2.size + 1 + (rdOf ByteArray.empty (l0.take (x7_3 : Int).toNat) x35_2).size) = False := by (have q := c24b2; simp only [ByteArray.size_append] at q; exact q)
                              try (have c24b4 := c24b2; simp only [ByteArray.size_extract, Nat.min_self] at c24b4)
                              have H' := Aside0.mk H
                              clear H
                              have p127 : 0 ≤ (x35_2 : Int) := of_decide_eq_true (by first | (with_reducible assumption) | assumption)
                              have q127 : x35_2 < ((l0.take (x7_3 : Int).toNat).length : Int) := of_decide_eq_true (by first | (with_reducible assumption) | assumption)
                              obtain ⟨ad127, e127, hx127_0⟩ := Kd.at_string HR126.out x35_2 p127 q127
                              cases e127
                              replace p127 := eq_true p127
                              replace q127 := eq_true q127
                              go_wp2
                              go_roundg k2
                              case measure => have := HJ3.out; have := HK2.out; omega
                              case rel => exact ⟨((x8_2 ++ (⟨#[10]⟩ : ByteArray)) ++ (rdOf ByteArray.empty (l0.take (x7_3 : Int).toNat) x35_2)), (wrap64 (x35_2 + 1)), (by first | rfl | (simp; done) | (simp [*]; done)), (by first | rfl | (simp; done) | (simp [*]; done)), H', ⟨by have := HJ3.out; have := HK2.out; omega⟩, by repeat (first | exact Drawn0.refl _ | apply Drawn0.step)⟩
                            · rw [if_neg c24] at H
                              exact absurd H (by simp)
                          · rw [if_neg c23] at H
                            exact absurd H (by simp)
                        · rw [if_neg c22] at H
                          have c22b0 : decide (0 < x35_2) = false := decide_eq_false c22
                          clear c22
                          by_cases c25 : x8_2.size + (rdOf ByteArray.empty (l0.take (x7_3 : Int).toNat) x35_2).size ≤ 9223372036854775807
                          · rw [if_pos c25] at H
                            have c25b0 := eq_true c25
                            have c25b1 : decide (x8_2.size + (rdOf ByteArray.empty (l0.take (x7_3 : Int).toNat) x35_2).size ≤ 9223372036854775807) = true := decide_eq_true c25
                            try have c25b2 : (9223372036854775807 < x8_2.size + (rdOf ByteArray.empty (l0.take (x7_3 : Int).toNat) x35_2).size) = False := eq_false (Nat.not_lt.2 c25)
                            try (have c25b4 := c25b2; simp only [ByteArray.size_extract, Nat.min_self] at c25b4)
                            try (have c25b4 := c25b2; simp only [ByteArray.size_extract, Nat.min_self] at c25b4)
                            have H' := Aside0.mk H
                            clear H
                            have p127 : 0 ≤ (x35_2 : Int) := of_decide_eq_true (by first | (with_reducible assumption) | assumption)
                            have q127 : x35_2 < ((l0.take (x7_3 : Int).toNat).length : Int) := of_decide_eq_true (by first | (with_reducible assumption) | assumption)
                            obtain ⟨ad127, e127, hx127_0⟩ := Kd.at_string HR126.out x35_2 p127 q127
                            cases e127
                            replace p127 := eq_true p127
                            replace q127 := eq_true q127
                            go_wp2
                            go_roundg k2
                            case measure => have := HJ3.out; have := HK2.out; omega
                            case rel => exact ⟨(x8_2 ++ (rdOf ByteArray.empty (l0.take (x7_3 : Int).toNat) x35_2)), (wrap64 (x35_2 + 1)), (by first | rfl | (simp; done) | (simp [*]; done)), (by first | rfl | (simp; done) | (simp [*]; done)), H', ⟨by have := HJ3.out; have := HK2.out; omega⟩, by repeat (first | exact Drawn0.refl _ | apply Drawn0.step)⟩
                          · rw [if_neg c25] at H
                            exact absurd H (by simp)
                      · rw [if_neg c21] at H
                        exact absurd H (by simp)
                    · rw [if_neg c20] at H
                      exact absurd H (by simp)
                  · rw [if_neg c19] at H
                    have c19b0 : decide (x35_2 < ((l0.take (x7_3 : Int).toNat).length : Int)) = false := decide_eq_false c19
                    try have c19b7 : decide (x35_2 < max x7_3 0) = false := decide_eq_false (by have h1 := of_decide_eq_false c19b0; have h2 := HL_x7_3.out; rw [List.length_take] at h1; omega)
                    clear c19
                    (first | rw [c19b0] | (simp only [i64_w, i32_w]; rw [c19b0]) | skip)
                    have H' := Aside0.mk H
                    clear H
                    go_wp2
                    go_meet
                    case rel => exact ⟨_, (x8_2), (by first | rfl | (simp; done) | (simp [*]; done)), H', ⟨by have := HJ3.out; have := HK2.out; first | omega | exact Nat.le_refl _⟩, by repeat (first | exact Drawn0.refl _ | apply Drawn0.step)⟩
            · rw [if_neg c17] at H
              exact absurd H (by simp)
          · rw [if_neg c16] at H
            exact absurd H (by simp)
      case rest =>
        clear HC10
        try clear c1
        try clear p1
        try clear q1
        try clear hx1
        try clear c2
        try clear p2
        try clear c3
        try clear c4
        try clear c5
        try clear c5b0
        try clear p6
        try clear c7
        try clear c7b0
        try clear c8
        try clear c8b0
        try clear c9
        try clear c9b0
        try clear c9b1
        try clear c11
        try clear c12
        try clear c12b0
        try clear c12b1
        try clear p12
        try clear q12
        try clear hx12
        try clear c13
        try clear c13b0
        try clear c13b1
        try clear c16
        try clear c16b0
        try clear c16b1
        try clear c17
        try clear c17b0
        try clear c17b1
        try clear c19
        try clear c19b0
        try clear c20
        try clear c20b0
        try clear c21
        try clear c21b0
        try clear c22
        try clear c22b0
        try clear c23
        try clear c23b0
        try clear c23b1
        try clear c23b2
        try clear c24
        try clear c24b0
        try clear c24b1
        try clear c24b2
        try clear c25
        try clear c25b0
        try clear c25b1
        try clear c25b2
        try clear hx123_0
        try clear hx127_0
        try clear p1
        try clear p12
        try clear p123
        try clear p127
        try clear p2
        try clear p6
        try clear q1
        try clear q12
        try clear q123
        try clear q127
        obtain ⟨kq, x8_9, rfl, HA, HJ9, ⟨mc9, rfl⟩⟩ := hcut
        cases kq with
        | zero => exact absurd HA.out (by simp [spec_BlockText.j3])
        | succ kj9 =>
          have H := HA.out
          clear HA
          simp only [spec_BlockText.j3] at H
          have HC26 := Aside0.mk H
          clear H
          go_upto_region 14 with (fail)
          go_cut [53] (fun v53 wc => ∃ (kq : Nat) (x53_25 : Bool), v53 = .bool x53_25 ∧ Aside0 (spec_BlockText.j4 kq l0 a2 x7_3 x8_9 x53_25 = some r) ∧ Aside0 (kq ≤ kj9) ∧ Drawn0 w wc)
          case first =>
            have H := HC26.out
            clear HC26
            by_cases c27 : x7_3 > 0
            · rw [if_pos c27] at H
              have c27b0 : decide (0 < x7_3) = true := decide_eq_true c27
              clear c27
              (first | rw [c27b0] | (simp only [i64_w, i32_w]; rw [c27b0]) | skip)
              have H' := Aside0.mk H
              clear H
              go_wp2
              go_meet
              case rel => exact ⟨_, ((a2 != 1)), (by first | rfl | (simp; done) | (simp [*]; done)), H', ⟨by have := HJ3.out; have := HJ9.out; first | omega | exact Nat.le_refl _⟩, by repeat (first | exact Drawn0.refl _ | apply Drawn0.step)⟩
            · rw [if_neg c27] at H
              have c27b0 : decide (0 < x7_3) = false := decide_eq_false c27
              clear c27
              (first | rw [c27b0] | (simp only [i64_w, i32_w]; rw [c27b0]) | skip)
              have H' := Aside0.mk H
              clear H
              go_wp2
              go_meet
              case rel => exact ⟨_, (false), (by first | rfl | (simp; done) | (simp [*]; done)), H', ⟨by have := HJ3.out; have := HJ9.out; first | omega | exact Nat.le_refl _⟩, by repeat (first | exact Drawn0.refl _ | apply Drawn0.step)⟩
          case rest =>
            clear HC26
            try clear c1
            try clear p1
            try clear q1
            try clear hx1
            try clear c2
            try clear p2
            try clear c3
            try clear c4
            try clear c5
            try clear c5b0
            try clear p6
            try clear c7
            try clear c7b0
            try clear c8
            try clear c8b0
            try clear c9
            try clear c9b0
            try clear c9b1
            try clear c11
            try clear c12
            try clear c12b0
            try clear c12b1
            try clear p12
            try clear q12
            try clear hx12
            try clear c13
            try clear c13b0
            try clear c13b1
            try clear c16
            try clear c16b0
            try clear c16b1
            try clear c17
            try clear c17b0
            try clear c17b1
            try clear c19
            try clear c19b0
            try clear c20
            try clear c20b0
            try clear c21
            try clear c21b0
            try clear c22
            try clear c22b0
            try clear c23
            try clear c23b0
            try clear c23b1
            try clear c23b2
            try clear c24
            try clear c24b0
            try clear c24b1
            try clear c24b2
            try clear c25
            try clear c25b0
            try clear c25b1
            try clear c25b2
            try clear c27
            try clear c27b0
            try clear hx123_0
            try clear hx127_0
            try clear p1
            try clear p12
            try clear p123
            try clear p127
            try clear p2
            try clear p6
            try clear q1
            try clear q12
            try clear q123
            try clear q127
            obtain ⟨kq, x53_25, rfl, HA, HJ25, ⟨mc25, rfl⟩⟩ := hcut
            cases kq with
            | zero => exact absurd HA.out (by simp [spec_BlockText.j4])
            | succ kj25 =>
              have H := HA.out
              clear HA
              simp only [spec_BlockText.j4] at H
              have HC28 := Aside0.mk H
              clear H
              go_upto_if 53 with (fail)
              go_cut [8] (fun v8 wc => ∃ (kq : Nat) (x8_27 : ByteArray), v8 = .string x8_27 ∧ Aside0 (spec_BlockText.j5 kq l0 a2 x7_3 x8_27 = some r) ∧ Aside0 (kq ≤ kj25) ∧ Drawn0 w wc)
              case first =>
                have H := HC28.out
                clear HC28
                by_cases c29 : x53_25 = true
                · subst c29
                  have H1 : (if x8_9.size + 1 ≤ 9223372036854775807 then (spec_BlockText.j5 kj25 l0 a2 x7_3 (x8_9 ++ (⟨#[10]⟩ : ByteArray))) else (none)) = some r := by rw [if_pos rfl] at H; exact H
                  clear H
                  have H := H1
                  clear H1
                  by_cases c30 : x8_9.size + 1 ≤ 9223372036854775807
                  · rw [if_pos c30] at H
                    have c30b0 := eq_true c30
                    have c30b1 : decide (x8_9.size + 1 ≤ 9223372036854775807) = true := decide_eq_true c30
                    try have c30b2 : (9223372036854775807 < x8_9.size + 1) = False := eq_false (Nat.not_lt.2 c30)
                    try (have c30b4 := c30b2; simp only [ByteArray.size_extract, Nat.min_self] at c30b4)
                    try (have c30b4 := c30b2; simp only [ByteArray.size_extract, Nat.min_self] at c30b4)
                    have H' := Aside0.mk H
                    clear H
                    go_wp2
                    go_meet
                    case rel => exact ⟨_, (x8_9 ++ (⟨#[10]⟩ : ByteArray)), (by first | rfl | (simp; done) | (simp [*]; done)), H', ⟨by have := HJ3.out; have := HJ9.out; have := HJ25.out; first | omega | exact Nat.le_refl _⟩, by repeat (first | exact Drawn0.refl _ | apply Drawn0.step)⟩
                  · rw [if_neg c30] at H
                    exact absurd H (by simp)
                · replace c29 := Bool.eq_false_iff.mpr c29
                  subst c29
                  have H1 : (spec_BlockText.j5 kj25 l0 a2 x7_3 x8_9) = some r := by rw [if_neg (show ¬ (false = true) by decide)] at H; exact H
                  clear H
                  have H := H1
                  clear H1
                  have H' := Aside0.mk H
                  clear H
                  go_wp2
                  go_meet
                  case rel => exact ⟨_, (x8_9), (by first | rfl | (simp; done) | (simp [*]; done)), H', ⟨by have := HJ3.out; have := HJ9.out; have := HJ25.out; first | omega | exact Nat.le_refl _⟩, by repeat (first | exact Drawn0.refl _ | apply Drawn0.step)⟩
              case rest =>
                clear HC28
                try clear c1
                try clear p1
                try clear q1
                try clear hx1
                try clear c2
                try clear p2
                try clear c3
                try clear c4
                try clear c5
                try clear c5b0
                try clear p6
                try clear c7
                try clear c7b0
                try clear c8
                try clear c8b0
                try clear c9
                try clear c9b0
                try clear c9b1
                try clear c11
                try clear c12
                try clear c12b0
                try clear c12b1
                try clear p12
                try clear q12
                try clear hx12
                try clear c13
                try clear c13b0
                try clear c13b1
                try clear c16
                try clear c16b0
                try clear c16b1
                try clear c17
                try clear c17b0
                try clear c17b1
                try clear c19
                try clear c19b0
                try clear c20
                try clear c20b0
                try clear c21
                try clear c21b0
                try clear c22
                try clear c22b0
                try clear c23
                try clear c23b0
                try clear c23b1
                try clear c23b2
                try clear c24
                try clear c24b0
                try clear c24b1
                try clear c24b2
                try clear c25
                try clear c25b0
                try clear c25b1
                try clear c25b2
                try clear c27
                try clear c27b0
                try clear c29
                try clear c30
                try clear c30b0
                try clear c30b1
                try clear c30b2
                try clear hx123_0
                try clear hx127_0
                try clear p1
                try clear p12
                try clear p123
                try clear p127
                try clear p2
                try clear p6
                try clear q1
                try clear q12
                try clear q123
                try clear q127
                obtain ⟨kq, x8_27, rfl, HA, HJ27, ⟨mc27, rfl⟩⟩ := hcut
                cases kq with
                | zero => exact absurd HA.out (by simp [spec_BlockText.j5])
                | succ kj27 =>
                  have H := HA.out
                  clear HA
                  simp only [spec_BlockText.j5] at H
                  have H' := Aside0.mk H
                  clear H
                  go_wp2
                  go_loopg [8, 11] kj27 (fun kq v8 v11 w' => ∃ (x8_5 : ByteArray) (x11_5 : Int), v8 = .string x8_5 ∧ v11 = .int .i64 x11_5 ∧ Aside0 (spec_BlockText.l2 kq l0 a2 x8_5 x11_5 = some r) ∧ Aside0 (kq ≤ kj27) ∧ Drawn0 w w')
                  case atStart => exact ⟨(x8_27), (x7_3), (by first | rfl | (simp; done) | (simp [*]; done)), (by first | rfl | (simp; done) | (simp [*]; done)), H', ⟨Nat.le_refl _⟩, by repeat (first | exact Drawn0.refl _ | apply Drawn0.step)⟩
                  case round =>
                    clear H'
                    try clear c1
                    try clear p1
                    try clear q1
                    try clear hx1
                    try clear c2
                    try clear p2
                    try clear c3
                    try clear c4
                    try clear c5
                    try clear c5b0
                    try clear p6
                    try clear c7
                    try clear c7b0
                    try clear c8
                    try clear c8b0
                    try clear c9
                    try clear c9b0
                    try clear c9b1
                    try clear c11
                    try clear c12
                    try clear c12b0
                    try clear c12b1
                    try clear p12
                    try clear q12
                    try clear hx12
                    try clear c13
                    try clear c13b0
                    try clear c13b1
                    try clear c16
                    try clear c16b0
                    try clear c16b1
                    try clear c17
                    try clear c17b0
                    try clear c17b1
                    try clear c19
                    try clear c19b0
                    try clear c20
                    try clear c20b0
                    try clear c21
                    try clear c21b0
                    try clear c22
                    try clear c22b0
                    try clear c23
                    try clear c23b0
                    try clear c23b1
                    try clear c23b2
                    try clear c24
                    try clear c24b0
                    try clear c24b1
                    try clear c24b2
                    try clear c25
                    try clear c25b0
                    try clear c25b1
                    try clear c25b2
                    try clear c27
                    try clear c27b0
                    try clear c29
                    try clear c30
                    try clear c30b0
                    try clear c30b1
                    try clear c30b2
                    try clear hx123_0
                    try clear hx127_0
                    try clear p1
                    try clear p12
                    try clear p123
                    try clear p127
                    try clear p2
                    try clear p6
                    try clear q1
                    try clear q12
                    try clear q123
                    try clear q127
                    obtain ⟨x8_5, x11_5, rfl, rfl, HA, HK5, ⟨m5, rfl⟩⟩ := hrel
                    cases gk with
                    | zero => exact absurd HA.out (by simp [spec_BlockText.l2])
                    | succ k5 =>
                      have H := HA.out
                      clear HA
                      simp only [spec_BlockText.l2] at H
                      by_cases c31 : x11_5 < (l0.length : Int)
                      · rw [if_pos c31] at H
                        have c31b0 : decide (x11_5 < (l0.length : Int)) = true := decide_eq_true c31
                        clear c31
                        by_cases c32 : a2 = 2
                        · rw [if_pos c32] at H
                          have c32b0 : (a2 == 2) = true := beq_iff_eq.mpr c32
                          have c32b1 : (a2 != 2) = false := bne_eq_false_iff_eq.mpr c32
                          clear c32
                          by_cases c33 : x8_5.size + 1 ≤ 9223372036854775807
                          · rw [if_pos c33] at H
                            have c33b0 := eq_true c33
                            have c33b1 : decide (x8_5.size + 1 ≤ 9223372036854775807) = true := decide_eq_true c33
                            try have c33b2 : (9223372036854775807 < x8_5.size + 1) = False := eq_false (Nat.not_lt.2 c33)
                            try (have c33b4 := c33b2; simp only [ByteArray.size_extract, Nat.min_self] at c33b4)
                            try (have c33b4 := c33b2; simp only [ByteArray.size_extract, Nat.min_self] at c33b4)
                            have H' := Aside0.mk H
                            clear H
                            go_wp2
                            go_roundg k5
                            case measure => have := HJ3.out; have := HJ9.out; have := HJ25.out; have := HJ27.out; have := HK5.out; omega
                            case rel => exact ⟨(x8_5 ++ (⟨#[10]⟩ : ByteArray)), (wrap64 (x11_5 + 1)), (by first | rfl | (simp; done) | (simp [*]; done)), (by first | rfl | (simp; done) | (simp [*]; done)), H', ⟨by have := HJ3.out; have := HJ9.out; have := HJ25.out; have := HJ27.out; have := HK5.out; omega⟩, by repeat (first | exact Drawn0.refl _ | apply Drawn0.step)⟩
                          · rw [if_neg c33] at H
                            exact absurd H (by simp)
                        · rw [if_neg c32] at H
                          have c32b0 : (a2 == 2) = false := beq_eq_false_iff_ne.mpr c32
                          have c32b1 : (a2 != 2) = true := bne_iff_ne.mpr c32
                          obtain rfl := Option.some.inj H
                          go_wp2
                          go_ret
                          exact ⟨by first | rfl | (simp; done) | (simp [*]; done), by repeat (first | exact Drawn0.refl _ | apply Drawn0.step)⟩
                      · rw [if_neg c31] at H
                        have c31b0 : decide (x11_5 < (l0.length : Int)) = false := decide_eq_false c31
                        clear c31
                        obtain rfl := Option.some.inj H
                        go_wp2
                        go_ret
                        exact ⟨by first | rfl | (simp; done) | (simp [*]; done), by repeat (first | exact Drawn0.refl _ | apply Drawn0.step)⟩

end Go.Proofs.Ytglmjmkbahfgaaa.PFnExactBlockText
