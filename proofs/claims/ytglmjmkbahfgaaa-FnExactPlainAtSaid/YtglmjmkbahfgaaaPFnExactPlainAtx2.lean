-- Written by a program of this session, out of the translation.
import Derived.Test.YtglmjmkbahfgaaaPFnExactPlainAtx0
import Derived.Test.YtglmjmkbahfgaaaPFnExactPlainAtx1
namespace Go.Proofs.Ytglmjmkbahfgaaa.PFnExactPlainAt
open Go.RowKit Go.Proofs.YtglmjmkbahfgaaaW.PrintWords Go.Proofs.YtglmjmkbahfgaaaW.PrintLast Go.Proofs.YtglmjmkbahfgaaaW.PrintMore
attribute [local go_sem] max2_int min2_int max_two min_two max_three min_three max_four min_four   -- for this text's walks alone
set_option linter.unusedVariables false
set_option linter.unusedSimpArgs false

/-! ### spec_PlainEnd: function 58 -/
mutual
def spec_PlainEnd.j2 : Nat → ByteArray → Int → Int → Option (Int)
  | 0, _, _, _ => none
  | k + 1, x0, x1, x7 => spec_PlainEnd.l1 k x0 x1 x7
def spec_PlainEnd.l1 : Nat → ByteArray → Int → Int → Option (Int)
  | 0, _, _, _ => none
  | k + 1, x0, x1, x7 => if x7 > x1 then ((spec_l03White.f x0 (wrap64 (x7 - 1))).bind fun t119 => (if t119 = true then (spec_PlainEnd.l1 k x0 x1 (wrap64 (x7 - 1))) else (some x7))) else (some x7)
def spec_PlainEnd.l0 : Nat → ByteArray → Int → Bool → Int → Option (Int)
  | 0, _, _, _, _ => none
  | k + 1, x0, x1, x2, x7 => (spec_l03Break.f x0 x7).bind fun t112 => (if t112 = true then (spec_PlainEnd.j2 k x0 x1 x7) else (if 0 ≤ x7 then (if x7 < (x0.size : Int) then (if (bt x0 x7) = 35 then (if x7 > x1 then ((spec_l03White.f x0 (wrap64 (x7 - 1))).bind fun t113 => (if t113 = true then (spec_PlainEnd.j1 k x0 x1 x2 x7 true) else (if x2 = true then ((spec_l04Flow.f (bt x0 x7)).bind fun t114 => (spec_PlainEnd.j1 k x0 x1 x2 x7 t114)) else (spec_PlainEnd.j1 k x0 x1 x2 x7 false)))) else (if x2 = true then ((spec_l04Flow.f (bt x0 x7)).bind fun t115 => (spec_PlainEnd.j1 k x0 x1 x2 x7 t115)) else (spec_PlainEnd.j1 k x0 x1 x2 x7 false))) else (if x2 = true then ((spec_l04Flow.f (bt x0 x7)).bind fun t116 => (spec_PlainEnd.j1 k x0 x1 x2 x7 t116)) else (spec_PlainEnd.j1 k x0 x1 x2 x7 false))) else (none)) else (none)))
def spec_PlainEnd.j1 : Nat → ByteArray → Int → Bool → Int → Bool → Option (Int)
  | 0, _, _, _, _, _ => none
  | k + 1, x0, x1, x2, x7, x39 => if x39 = true then (spec_PlainEnd.j2 k x0 x1 x7) else (if 0 ≤ x7 then (if x7 < (x0.size : Int) then (if (bt x0 x7) = 58 then ((spec_l03Gap.f x0 (wrap64 (x7 + 1))).bind fun t117 => (if t117 = true then (spec_PlainEnd.j2 k x0 x1 x7) else (if x2 = true then (if 0 ≤ (wrap64 (x7 + 1)) then (if (wrap64 (x7 + 1)) < (x0.size : Int) then ((spec_l04Flow.f (bt x0 (wrap64 (x7 + 1)))).bind fun t118 => (if t118 = true then (spec_PlainEnd.j2 k x0 x1 x7) else (spec_PlainEnd.l0 k x0 x1 x2 (wrap64 (x7 + 1))))) else (none)) else (none)) else (spec_PlainEnd.l0 k x0 x1 x2 (wrap64 (x7 + 1)))))) else (spec_PlainEnd.l0 k x0 x1 x2 (wrap64 (x7 + 1)))) else (none)) else (none))
end
def spec_PlainEnd.f (k : Nat) (a0 : ByteArray) (a1 : Int) (a2 : Bool) : Option (Int) := (spec_l01P.f a0 a1).bind fun t111 => (spec_PlainEnd.l0 k a0 t111 a2 t111)
theorem spec_PlainEnd.mono_l : ∀ k, (∀ y0 y1 y2, LeO (spec_PlainEnd.j2 k y0 y1 y2) (spec_PlainEnd.j2 (k + 1) y0 y1 y2)) ∧ (∀ y0 y1 y2, LeO (spec_PlainEnd.l1 k y0 y1 y2) (spec_PlainEnd.l1 (k + 1) y0 y1 y2)) ∧ (∀ y0 y1 y2 y3, LeO (spec_PlainEnd.l0 k y0 y1 y2 y3) (spec_PlainEnd.l0 (k + 1) y0 y1 y2 y3)) ∧ (∀ y0 y1 y2 y3 y4, LeO (spec_PlainEnd.j1 k y0 y1 y2 y3 y4) (spec_PlainEnd.j1 (k + 1) y0 y1 y2 y3 y4))
  | 0 => ⟨fun _ _ _ r h => by simp [spec_PlainEnd.j2] at h, fun _ _ _ r h => by simp [spec_PlainEnd.l1] at h, fun _ _ _ _ r h => by simp [spec_PlainEnd.l0] at h, fun _ _ _ _ _ r h => by simp [spec_PlainEnd.j1] at h⟩
  | k + 1 => by
    obtain ⟨ih0, ih1, ih2, ih3⟩ := spec_PlainEnd.mono_l k
    refine ⟨?_, ?_, ?_, ?_⟩
    · intro y0 y1 y2
      unfold spec_PlainEnd.j2
      repeat' first
      | (with_reducible exact ih0 _ _ _)
      | (with_reducible exact ih1 _ _ _)
      | (with_reducible exact ih2 _ _ _ _)
      | (with_reducible exact ih3 _ _ _ _ _)
      | (with_reducible exact LeO.refl _)
      | (with_reducible exact LeO.none _)
      | (with_reducible refine LeO.ite ?_ ?_)
      | (with_reducible refine LeO.bind ?_ (fun _ => ?_))
      | exact ih0 _ _ _
      | exact ih1 _ _ _
      | exact ih2 _ _ _ _
      | exact ih3 _ _ _ _ _
      | exact LeO.none _
      | refine LeO.ite ?_ ?_
      | refine LeO.bind ?_ (fun _ => ?_)
    · intro y0 y1 y2
      unfold spec_PlainEnd.l1
      repeat' first
      | (with_reducible exact ih0 _ _ _)
      | (with_reducible exact ih1 _ _ _)
      | (with_reducible exact ih2 _ _ _ _)
      | (with_reducible exact ih3 _ _ _ _ _)
      | (with_reducible exact LeO.refl _)
      | (with_reducible exact LeO.none _)
      | (with_reducible refine LeO.ite ?_ ?_)
      | (with_reducible refine LeO.bind ?_ (fun _ => ?_))
      | exact ih0 _ _ _
      | exact ih1 _ _ _
      | exact ih2 _ _ _ _
      | exact ih3 _ _ _ _ _
      | exact LeO.none _
      | refine LeO.ite ?_ ?_
      | refine LeO.bind ?_ (fun _ => ?_)
    · intro y0 y1 y2 y3
      unfold spec_PlainEnd.l0
      repeat' first
      | (with_reducible exact ih0 _ _ _)
      | (with_reducible exact ih1 _ _ _)
      | (with_reducible exact ih2 _ _ _ _)
      | (with_reducible exact ih3 _ _ _ _ _)
      | (with_reducible exact LeO.refl _)
      | (with_reducible exact LeO.none _)
      | (with_reducible refine LeO.ite ?_ ?_)
      | (with_reducible refine LeO.bind ?_ (fun _ => ?_))
      | exact ih0 _ _ _
      | exact ih1 _ _ _
      | exact ih2 _ _ _ _
      | exact ih3 _ _ _ _ _
      | exact LeO.none _
      | refine LeO.ite ?_ ?_
      | refine LeO.bind ?_ (fun _ => ?_)
    · intro y0 y1 y2 y3 y4
      unfold spec_PlainEnd.j1
      repeat' first
      | (with_reducible exact ih0 _ _ _)
      | (with_reducible exact ih1 _ _ _)
      | (with_reducible exact ih2 _ _ _ _)
      | (with_reducible exact ih3 _ _ _ _ _)
      | (with_reducible exact LeO.refl _)
      | (with_reducible exact LeO.none _)
      | (with_reducible refine LeO.ite ?_ ?_)
      | (with_reducible refine LeO.bind ?_ (fun _ => ?_))
      | exact ih0 _ _ _
      | exact ih1 _ _ _
      | exact ih2 _ _ _ _
      | exact ih3 _ _ _ _ _
      | exact LeO.none _
      | refine LeO.ite ?_ ?_
      | refine LeO.bind ?_ (fun _ => ?_)
theorem spec_PlainEnd.mono : ∀ a0 a1 a2 k, LeO (spec_PlainEnd.f k a0 a1 a2) (spec_PlainEnd.f (k + 1) a0 a1 a2) := by
  intro a0 a1 a2 k
  obtain ⟨ih0, ih1, ih2, ih3⟩ := spec_PlainEnd.mono_l k
  unfold spec_PlainEnd.f
  repeat' first
      | (with_reducible exact ih0 _ _ _)
      | (with_reducible exact ih1 _ _ _)
      | (with_reducible exact ih2 _ _ _ _)
      | (with_reducible exact ih3 _ _ _ _ _)
      | (with_reducible exact LeO.refl _)
      | (with_reducible exact LeO.none _)
      | (with_reducible refine LeO.ite ?_ ?_)
      | (with_reducible refine LeO.bind ?_ (fun _ => ?_))
      | exact ih0 _ _ _
      | exact ih1 _ _ _
      | exact ih2 _ _ _ _
      | exact ih3 _ _ _ _ _
      | exact LeO.none _
      | refine LeO.ite ?_ ?_
      | refine LeO.bind ?_ (fun _ => ?_)
set_option maxHeartbeats 8000000 in
set_option maxRecDepth 100000 in
theorem spec_PlainEnd.calls (k : Nat) (a0 : ByteArray) (a1 : Int) (a2 : Bool) (r : Int) (w : World) (h : spec_PlainEnd.f k a0 a1 a2 = some r) :
    Calls Try.prog 58 #[.string a0, .int .i64 a1, .bool a2] w fun e w' => e = .returned (.int .i64 r) ∧ Drawn0 w w' := by
  have H : ((spec_l01P.f a0 a1).bind fun t111 => (spec_PlainEnd.l0 k a0 t111 a2 t111)) = some r := h
  clear h
  replace H := Option.bind_eq_some_iff.mp H
  obtain ⟨t111, A40, H⟩ := H
  replace H : (spec_PlainEnd.l0 k a0 t111 a2 t111) = some r := H
  have A4 := Aside0.mk A40
  clear A40
  have HC5 := Aside0.mk H
  clear H
  go_enter Try.func58, Try.ntmps58
  go_upto_block 0 with (first | ((with_reducible refine gate_callee (f := 56) rfl ?_); refine goesL_ (some 10) rfl rfl Try.func56 (by kernel_rfl) rfl #[.string a0, .int .i64 a1] rfl (by (try simp only [List.map_toArray, List.map_cons, List.map_nil]); first | done | rfl | (simp only [List.length_drop, List.length_take]; rfl)) ?_; (with_reducible refine (spec_l01P.calls a0 a1 t111 _ A4.out).mono ?_); rintro e w' ⟨rfl, ⟨nd, rfl⟩⟩; refine ⟨_, rfl, ?_⟩))
  (try simp only [Act.put, List.setIfInBounds_toArray, List.set_cons_zero, List.set_cons_succ])
  go_cut [7] (fun v7 wc => ∃ (kq : Nat) (x7_4 : Int), v7 = .int .i64 x7_4 ∧ Aside0 (spec_PlainEnd.j2 kq a0 t111 x7_4 = some r) ∧ Aside0 (kq ≤ k) ∧ Drawn0 w wc)
  case first =>
    have H := HC5.out
    clear HC5
    have H' := Aside0.mk H
    clear H
    go_wp2
    go_loopg [7] k (fun kq v7 w' => ∃ (x7_1 : Int), v7 = .int .i64 x7_1 ∧ Aside0 (spec_PlainEnd.l0 kq a0 t111 a2 x7_1 = some r) ∧ Aside0 (kq ≤ k) ∧ Drawn0 w w')
    case atStart => exact ⟨(t111), (by first | rfl | (simp; done) | (simp [*]; done)), H', ⟨Nat.le_refl _⟩, by repeat (first | exact Drawn0.refl _ | apply Drawn0.step)⟩
    case round =>
      clear H'
      try clear p2
      try clear c5
      obtain ⟨x7_1, rfl, HA, HK1, ⟨m1, rfl⟩⟩ := hrel
      cases gk with
      | zero => exact absurd HA.out (by simp [spec_PlainEnd.l0])
      | succ k1 =>
        have H := HA.out
        clear HA
        simp only [spec_PlainEnd.l0] at H
        replace H := Option.bind_eq_some_iff.mp H
        obtain ⟨t112, A60, H⟩ := H
        replace H : (if t112 = true then (spec_PlainEnd.j2 k1 a0 t111 x7_1) else (if 0 ≤ x7_1 then (if x7_1 < (a0.size : Int) then (if (bt a0 x7_1) = 35 then (if x7_1 > t111 then ((spec_l03White.f a0 (wrap64 (x7_1 - 1))).bind fun t113 => (if t113 = true then (spec_PlainEnd.j1 k1 a0 t111 a2 x7_1 true) else (if a2 = true then ((spec_l04Flow.f (bt a0 x7_1)).bind fun t114 => (spec_PlainEnd.j1 k1 a0 t111 a2 x7_1 t114)) else (spec_PlainEnd.j1 k1 a0 t111 a2 x7_1 false)))) else (if a2 = true then ((spec_l04Flow.f (bt a0 x7_1)).bind fun t115 => (spec_PlainEnd.j1 k1 a0 t111 a2 x7_1 t115)) else (spec_PlainEnd.j1 k1 a0 t111 a2 x7_1 false))) else (if a2 = true then ((spec_l04Flow.f (bt a0 x7_1)).bind fun t116 => (spec_PlainEnd.j1 k1 a0 t111 a2 x7_1 t116)) else (spec_PlainEnd.j1 k1 a0 t111 a2 x7_1 false))) else (none)) else (none))) = some r := H
        have A6 := Aside0.mk A60
        clear A60
        by_cases c7 : t112 = true
        · subst c7
          have H1 : (spec_PlainEnd.j2 k1 a0 t111 x7_1) = some r := by rw [if_pos rfl] at H; exact H
          clear H
          have H := H1
          clear H1
          have H' := Aside0.mk H
          clear H
          go_wp2_with (first | ((with_reducible refine gate_callee (f := 111) rfl ?_); refine goesL_ (some 14) rfl rfl Try.func111 (by kernel_rfl) rfl #[.string a0, .int .i64 x7_1] rfl (by (try simp only [List.map_toArray, List.map_cons, List.map_nil]); first | done | rfl | (simp only [List.length_drop, List.length_take]; rfl)) ?_; (with_reducible refine (spec_l03Break.calls a0 x7_1 true _ A6.out).mono ?_); rintro e w' ⟨rfl, ⟨nd, rfl⟩⟩; refine ⟨_, rfl, ?_⟩))
          go_meet
          case rel => exact ⟨_, (x7_1), (by first | rfl | (simp; done) | (simp [*]; done)), H', ⟨by have := HK1.out; first | omega | exact Nat.le_refl _⟩, by repeat (first | exact Drawn0.refl _ | apply Drawn0.step)⟩
        · replace c7 := Bool.eq_false_iff.mpr c7
          subst c7
          have H1 : (if 0 ≤ x7_1 then (if x7_1 < (a0.size : Int) then (if (bt a0 x7_1) = 35 then (if x7_1 > t111 then ((spec_l03White.f a0 (wrap64 (x7_1 - 1))).bind fun t113 => (if t113 = true then (spec_PlainEnd.j1 k1 a0 t111 a2 x7_1 true) else (if a2 = true then ((spec_l04Flow.f (bt a0 x7_1)).bind fun t114 => (spec_PlainEnd.j1 k1 a0 t111 a2 x7_1 t114)) else (spec_PlainEnd.j1 k1 a0 t111 a2 x7_1 false)))) else (if a2 = true then ((spec_l04Flow.f (bt a0 x7_1)).bind fun t115 => (spec_PlainEnd.j1 k1 a0 t111 a2 x7_1 t115)) else (spec_PlainEnd.j1 k1 a0 t111 a2 x7_1 false))) else (if a2 = true then ((spec_l04Flow.f (bt a0 x7_1)).bind fun t116 => (spec_PlainEnd.j1 k1 a0 t111 a2 x7_1 t116)) else (spec_PlainEnd.j1 k1 a0 t111 a2 x7_1 false))) else (none)) else (none)) = some r := by rw [if_neg (show ¬ (false = true) by decide)] at H; exact H
          clear H
          have H := H1
          clear H1
          have HC8 := Aside0.mk H
          clear H
          go_upto_region 4 with (first | ((with_reducible refine gate_callee (f := 111) rfl ?_); refine goesL_ (some 14) rfl rfl Try.func111 (by kernel_rfl) rfl #[.string a0, .int .i64 x7_1] rfl (by (try simp only [List.map_toArray, List.map_cons, List.map_nil]); first | done | rfl | (simp only [List.length_drop, List.length_take]; rfl)) ?_; (with_reducible refine (spec_l03Break.calls a0 x7_1 false _ A6.out).mono ?_); rintro e w' ⟨rfl, ⟨nd, rfl⟩⟩; refine ⟨_, rfl, ?_⟩))
          (try simp only [Act.put, List.setIfInBounds_toArray, List.set_cons_zero, List.set_cons_succ])
          go_cut [39] (fun v39 wc => ∃ (kq : Nat) (x39_7 : Bool), v39 = .bool x39_7 ∧ Aside0 (spec_PlainEnd.j1 kq a0 t111 a2 x7_1 x39_7 = some r) ∧ Aside0 (kq ≤ k1) ∧ Drawn0 w wc)
          case first =>
            have H := HC8.out
            clear HC8
            by_cases c9 : 0 ≤ x7_1
            · rw [if_pos c9] at H
              have c9b0 : decide (0 ≤ x7_1) = true := decide_eq_true c9
              clear c9
              (first | rw [c9b0] | (simp only [i64_w, i32_w]; rw [c9b0]) | skip)
              by_cases c10 : x7_1 < (a0.size : Int)
              · rw [if_pos c10] at H
                have c10b0 : decide (x7_1 < (a0.size : Int)) = true := decide_eq_true c10
                clear c10
                by_cases c12 : (bt a0 x7_1) = 35
                · rw [if_pos c12] at H
                  have c12b0 : ((bt a0 x7_1) == 35) = true := beq_iff_eq.mpr c12
                  have c12b1 : ((bt a0 x7_1) != 35) = false := bne_eq_false_iff_eq.mpr c12
                  clear c12
                  by_cases c13 : x7_1 > t111
                  · rw [if_pos c13] at H
                    have c13b0 : decide (t111 < x7_1) = true := decide_eq_true c13
                    clear c13
                    replace H := Option.bind_eq_some_iff.mp H
                    obtain ⟨t113, A140, H⟩ := H
                    replace H : (if t113 = true then (spec_PlainEnd.j1 k1 a0 t111 a2 x7_1 true) else (if a2 = true then ((spec_l04Flow.f (bt a0 x7_1)).bind fun t114 => (spec_PlainEnd.j1 k1 a0 t111 a2 x7_1 t114)) else (spec_PlainEnd.j1 k1 a0 t111 a2 x7_1 false))) = some r := H
                    have A14 := Aside0.mk A140
                    clear A140
                    by_cases c15 : t113 = true
                    · subst c15
                      have H1 : (spec_PlainEnd.j1 k1 a0 t111 a2 x7_1 true) = some r := by rw [if_pos rfl] at H; exact H
                      clear H
                      have H := H1
                      clear H1
                      have H' := Aside0.mk H
                      clear H
                      have p11 : 0 ≤ (x7_1 : Int) := of_decide_eq_true (by first | (with_reducible assumption) | assumption)
                      have q11 : x7_1 < (a0.size : Int) := of_decide_eq_true (by first | (with_reducible assumption) | assumption)
                      have hx11 := bt_at a0 x7_1
                      replace p11 := eq_true p11
                      replace q11 := eq_true q11
                      go_wp2_with (first | (go_at_call 112; (with_reducible refine (spec_l03White.calls a0 (wrap64 (x7_1 - 1)) true _ A14.out).mono ?_); rintro e w' ⟨rfl, ⟨nd, rfl⟩⟩))
                      go_meet
                      case rel => exact ⟨_, (true), (by first | rfl | (simp; done) | (simp [*]; done)), H', ⟨by have := HK1.out; first | omega | exact Nat.le_refl _⟩, by repeat (first | exact Drawn0.refl _ | apply Drawn0.step)⟩
                    · replace c15 := Bool.eq_false_iff.mpr c15
                      subst c15
                      have H1 : (if a2 = true then ((spec_l04Flow.f (bt a0 x7_1)).bind fun t114 => (spec_PlainEnd.j1 k1 a0 t111 a2 x7_1 t114)) else (spec_PlainEnd.j1 k1 a0 t111 a2 x7_1 false)) = some r := by rw [if_neg (show ¬ (false = true) by decide)] at H; exact H
                      clear H
                      have H := H1
                      clear H1
                      by_cases c16 : a2 = true
                      · subst c16
                        have H1 : ((spec_l04Flow.f (bt a0 x7_1)).bind fun t114 => (spec_PlainEnd.j1 k1 a0 t111 true x7_1 t114)) = some r := by rw [if_pos rfl] at H; exact H
                        clear H
                        have H := H1
                        clear H1
                        replace H := Option.bind_eq_some_iff.mp H
                        obtain ⟨t114, A180, H⟩ := H
                        replace H : (spec_PlainEnd.j1 k1 a0 t111 true x7_1 t114) = some r := H
                        have A18 := Aside0.mk A180
                        clear A180
                        have H' := Aside0.mk H
                        clear H
                        have p11 : 0 ≤ (x7_1 : Int) := of_decide_eq_true (by first | (with_reducible assumption) | assumption)
                        have q11 : x7_1 < (a0.size : Int) := of_decide_eq_true (by first | (with_reducible assumption) | assumption)
                        have hx11 := bt_at a0 x7_1
                        replace p11 := eq_true p11
                        replace q11 := eq_true q11
                        go_wp2_with (first | (go_at_call 112; (with_reducible refine (spec_l03White.calls a0 (wrap64 (x7_1 - 1)) false _ A14.out).mono ?_); rintro e w' ⟨rfl, ⟨nd, rfl⟩⟩; have p17 : 0 ≤ (x7_1 : Int) := of_decide_eq_true (by first | (with_reducible assumption) | assumption); have q17 : x7_1 < (a0.size : Int) := of_decide_eq_true (by first | (with_reducible assumption) | assumption); have hx17 := bt_at a0 x7_1; replace p17 := eq_true p17; replace q17 := eq_true q17) | (go_at_call 110; (with_reducible refine (spec_l04Flow.calls (bt a0 x7_1) t114 _ A18.out).mono ?_); rintro e w' ⟨rfl, ⟨nd, rfl⟩⟩))
                        go_meet
                        case rel => exact ⟨_, (t114), (by first | rfl | (simp; done) | (simp [*]; done)), H', ⟨by have := HK1.out; first | omega | exact Nat.le_refl _⟩, by repeat (first | exact Drawn0.refl _ | apply Drawn0.step)⟩
                      · replace c16 := Bool.eq_false_iff.mpr c16
                        subst c16
                        have H1 : (spec_PlainEnd.j1 k1 a0 t111 false x7_1 false) = some r := by rw [if_neg (show ¬ (false = true) by decide)] at H; exact H
                        clear H
                        have H := H1
                        clear H1
                        have H' := Aside0.mk H
                        clear H
                        have p11 : 0 ≤ (x7_1 : Int) := of_decide_eq_true (by first | (with_reducible assumption) | assumption)
                        have q11 : x7_1 < (a0.size : Int) := of_decide_eq_true (by first | (with_reducible assumption) | assumption)
                        have hx11 := bt_at a0 x7_1
                        replace p11 := eq_true p11
                        replace q11 := eq_true q11
                        go_wp2_with (first | (go_at_call 112; (with_reducible refine (spec_l03White.calls a0 (wrap64 (x7_1 - 1)) false _ A14.out).mono ?_); rintro e w' ⟨rfl, ⟨nd, rfl⟩⟩))
                        go_meet
                        case rel => exact ⟨_, (false), (by first | rfl | (simp; done) | (simp [*]; done)), H', ⟨by have := HK1.out; first | omega | exact Nat.le_refl _⟩, by repeat (first | exact Drawn0.refl _ | apply Drawn0.step)⟩
                  · rw [if_neg c13] at H
                    have c13b0 : decide (t111 < x7_1) = false := decide_eq_false c13
                    clear c13
                    by_cases c19 : a2 = true
                    · subst c19
                      have H1 : ((spec_l04Flow.f (bt a0 x7_1)).bind fun t115 => (spec_PlainEnd.j1 k1 a0 t111 true x7_1 t115)) = some r := by rw [if_pos rfl] at H; exact H
                      clear H
                      have H := H1
                      clear H1
                      replace H := Option.bind_eq_some_iff.mp H
                      obtain ⟨t115, A210, H⟩ := H
                      replace H : (spec_PlainEnd.j1 k1 a0 t111 true x7_1 t115) = some r := H
                      have A21 := Aside0.mk A210
                      clear A210
                      have H' := Aside0.mk H
                      clear H
                      have p11 : 0 ≤ (x7_1 : Int) := of_decide_eq_true (by first | (with_reducible assumption) | assumption)
                      have q11 : x7_1 < (a0.size : Int) := of_decide_eq_true (by first | (with_reducible assumption) | assumption)
                      have hx11 := bt_at a0 x7_1
                      replace p11 := eq_true p11
                      replace q11 := eq_true q11
                      have p20 : 0 ≤ (x7_1 : Int) := of_decide_eq_true (by first | (with_reducible assumption) | assumption)
                      have q20 : x7_1 < (a0.size : Int) := of_decide_eq_true (by first | (with_reducible assumption) | assumption)
                      have hx20 := bt_at a0 x7_1
                      replace p20 := eq_true p20
                      replace q20 := eq_true q20
                      go_wp2_with (first | (go_at_call 110; (with_reducible refine (spec_l04Flow.calls (bt a0 x7_1) t115 _ A21.out).mono ?_); rintro e w' ⟨rfl, ⟨nd, rfl⟩⟩))
                      go_meet
                      case rel => exact ⟨_, (t115), (by first | rfl | (simp; done) | (simp [*]; done)), H', ⟨by have := HK1.out; first | omega | exact Nat.le_refl _⟩, by repeat (first | exact Drawn0.refl _ | apply Drawn0.step)⟩
                    · replace c19 := Bool.eq_false_iff.mpr c19
                      subst c19
                      have H1 : (spec_PlainEnd.j1 k1 a0 t111 false x7_1 false) = some r := by rw [if_neg (show ¬ (false = true) by decide)] at H; exact H
                      clear H
                      have H := H1
                      clear H1
                      have H' := Aside0.mk H
                      clear H
                      have p11 : 0 ≤ (x7_1 : Int) := of_decide_eq_true (by first | (with_reducible assumption) | assumption)
                      have q11 : x7_1 < (a0.size : Int) := of_decide_eq_true (by first | (with_reducible assumption) | assumption)
                      have hx11 := bt_at a0 x7_1
                      replace p11 := eq_true p11
                      replace q11 := eq_true q11
                      go_wp2
                      go_meet
                      case rel => exact ⟨_, (false), (by first | rfl | (simp; done) | (simp [*]; done)), H', ⟨by have := HK1.out; first | omega | exact Nat.le_refl _⟩, by repeat (first | exact Drawn0.refl _ | apply Drawn0.step)⟩
                · rw [if_neg c12] at H
                  have c12b0 : ((bt a0 x7_1) == 35) = false := beq_eq_false_iff_ne.mpr c12
                  have c12b1 : ((bt a0 x7_1) != 35) = true := bne_iff_ne.mpr c12
                  by_cases c22 : a2 = true
                  · subst c22
                    have H1 : ((spec_l04Flow.f (bt a0 x7_1)).bind fun t116 => (spec_PlainEnd.j1 k1 a0 t111 true x7_1 t116)) = some r := by rw [if_pos rfl] at H; exact H
                    clear H
                    have H := H1
                    clear H1
                    replace H := Option.bind_eq_some_iff.mp H
                    obtain ⟨t116, A240, H⟩ := H
                    replace H : (spec_PlainEnd.j1 k1 a0 t111 true x7_1 t116) = some r := H
                    have A24 := Aside0.mk A240
                    clear A240
                    have H' := Aside0.mk H
                    clear H
                    have p11 : 0 ≤ (x7_1 : Int) := of_decide_eq_true (by first | (with_reducible assumption) | assumption)
                    have q11 : x7_1 < (a0.size : Int) := of_decide_eq_true (by first | (with_reducible assumption) | assumption)
                    have hx11 := bt_at a0 x7_1
                    replace p11 := eq_true p11
                    replace q11 := eq_true q11
                    have p23 : 0 ≤ (x7_1 : Int) := of_decide_eq_true (by first | (with_reducible assumption) | assumption)
                    have q23 : x7_1 < (a0.size : Int) := of_decide_eq_true (by first | (with_reducible assumption) | assumption)
                    have hx23 := bt_at a0 x7_1
                    replace p23 := eq_true p23
                    replace q23 := eq_true q23
                    go_wp2_with (first | (go_at_call 110; (with_reducible refine (spec_l04Flow.calls (bt a0 x7_1) t116 _ A24.out).mono ?_); rintro e w' ⟨rfl, ⟨nd, rfl⟩⟩))
                    go_meet
                    case rel => exact ⟨_, (t116), (by first | rfl | (simp; done) | (simp [*]; done)), H', ⟨by have := HK1.out; first | omega | exact Nat.le_refl _⟩, by repeat (first | exact Drawn0.refl _ | apply Drawn0.step)⟩
                  · replace c22 := Bool.eq_false_iff.mpr c22
                    subst c22
                    have H1 : (spec_PlainEnd.j1 k1 a0 t111 false x7_1 false) = some r := by rw [if_neg (show ¬ (false = true) by decide)] at H; exact H
                    clear H
                    have H := H1
                    clear H1
                    have H' := Aside0.mk H
                    clear H
                    have p11 : 0 ≤ (x7_1 : Int) := of_decide_eq_true (by first | (with_reducible assumption) | assumption)
                    have q11 : x7_1 < (a0.size : Int) := of_decide_eq_true (by first | (with_reducible assumption) | assumption)
                    have hx11 := bt_at a0 x7_1
                    replace p11 := eq_true p11
                    replace q11 := eq_true q11
                    go_wp2
                    go_meet
                    case rel => exact ⟨_, (false), (by first | rfl | (simp; done) | (simp [*]; done)), H', ⟨by have := HK1.out; first | omega | exact Nat.le_refl _⟩, by repeat (first | exact Drawn0.refl _ | apply Drawn0.step)⟩
              · rw [if_neg c10] at H
                exact absurd H (by simp)
            · rw [if_neg c9] at H
              exact absurd H (by simp)
          case rest =>
            clear HC8
            try clear c1
            try clear p1
            try clear q1
            try clear hx1
            try clear c2
            try clear p2
            try clear q2
            try clear hx2
            try clear c5
            try clear p6
            try clear c7
            try clear c9
            try clear c9b0
            try clear c10
            try clear c10b0
            try clear c11
            try clear p11
            try clear q11
            try clear hx11
            try clear c12
            try clear c12b0
            try clear c12b1
            try clear c13
            try clear c13b0
            try clear c15
            try clear c16
            try clear p17
            try clear q17
            try clear hx17
            try clear c19
            try clear p20
            try clear q20
            try clear hx20
            try clear c22
            try clear p23
            try clear q23
            try clear hx23
            try clear p11
            try clear p17
            try clear p2
            try clear p20
            try clear p23
            try clear q11
            try clear q17
            try clear q20
            try clear q23
            obtain ⟨kq, x39_7, rfl, HA, HJ7, ⟨mc7, rfl⟩⟩ := hcut
            cases kq with
            | zero => exact absurd HA.out (by simp [spec_PlainEnd.j1])
            | succ kj7 =>
              have H := HA.out
              clear HA
              simp only [spec_PlainEnd.j1] at H
              by_cases c25 : x39_7 = true
              · subst c25
                have H1 : (spec_PlainEnd.j2 kj7 a0 t111 x7_1) = some r := by rw [if_pos rfl] at H; exact H
                clear H
                have H := H1
                clear H1
                have H' := Aside0.mk H
                clear H
                go_wp2
                go_meet
                case rel => exact ⟨_, (x7_1), (by first | rfl | (simp; done) | (simp [*]; done)), H', ⟨by have := HK1.out; have := HJ7.out; first | omega | exact Nat.le_refl _⟩, by repeat (first | exact Drawn0.refl _ | apply Drawn0.step)⟩
              · replace c25 := Bool.eq_false_iff.mpr c25
                subst c25
                have H1 : (if 0 ≤ x7_1 then (if x7_1 < (a0.size : Int) then (if (bt a0 x7_1) = 58 then ((spec_l03Gap.f a0 (wrap64 (x7_1 + 1))).bind fun t117 => (if t117 = true then (spec_PlainEnd.j2 kj7 a0 t111 x7_1) else (if a2 = true then (if 0 ≤ (wrap64 (x7_1 + 1)) then (if (wrap64 (x7_1 + 1)) < (a0.size : Int) then ((spec_l04Flow.f (bt a0 (wrap64 (x7_1 + 1)))).bind fun t118 => (if t118 = true then (spec_PlainEnd.j2 kj7 a0 t111 x7_1) else (spec_PlainEnd.l0 kj7 a0 t111 a2 (wrap64 (x7_1 + 1))))) else (none)) else (none)) else (spec_PlainEnd.l0 kj7 a0 t111 a2 (wrap64 (x7_1 + 1)))))) else (spec_PlainEnd.l0 kj7 a0 t111 a2 (wrap64 (x7_1 + 1)))) else (none)) else (none)) = some r := by rw [if_neg (show ¬ (false = true) by decide)] at H; exact H
                clear H
                have H := H1
                clear H1
                by_cases c26 : 0 ≤ x7_1
                · rw [if_pos c26] at H
                  have c26b0 : decide (0 ≤ x7_1) = true := decide_eq_true c26
                  clear c26
                  by_cases c27 : x7_1 < (a0.size : Int)
                  · rw [if_pos c27] at H
                    have c27b0 : decide (x7_1 < (a0.size : Int)) = true := decide_eq_true c27
                    clear c27
                    by_cases c29 : (bt a0 x7_1) = 58
                    · rw [if_pos c29] at H
                      have c29b0 : ((bt a0 x7_1) == 58) = true := beq_iff_eq.mpr c29
                      have c29b1 : ((bt a0 x7_1) != 58) = false := bne_eq_false_iff_eq.mpr c29
                      clear c29
                      replace H := Option.bind_eq_some_iff.mp H
                      obtain ⟨t117, A300, H⟩ := H
                      replace H : (if t117 = true then (spec_PlainEnd.j2 kj7 a0 t111 x7_1) else (if a2 = true then (if 0 ≤ (wrap64 (x7_1 + 1)) then (if (wrap64 (x7_1 + 1)) < (a0.size : Int) then ((spec_l04Flow.f (bt a0 (wrap64 (x7_1 + 1)))).bind fun t118 => (if t118 = true then (spec_PlainEnd.j2 kj7 a0 t111 x7_1) else (spec_PlainEnd.l0 kj7 a0 t111 a2 (wrap64 (x7_1 + 1))))) else (none)) else (none)) else (spec_PlainEnd.l0 kj7 a0 t111 a2 (wrap64 (x7_1 + 1))))) = some r := H
                      have A30 := Aside0.mk A300
                      clear A300
                      by_cases c31 : t117 = true
                      · subst c31
                        have H1 : (spec_PlainEnd.j2 kj7 a0 t111 x7_1) = some r := by rw [if_pos rfl] at H; exact H
                        clear H
                        have H := H1
                        clear H1
                        have H' := Aside0.mk H
                        clear H
                        have p28 : 0 ≤ (x7_1 : Int) := of_decide_eq_true (by first | (with_reducible assumption) | assumption)
                        have q28 : x7_1 < (a0.size : Int) := of_decide_eq_true (by first | (with_reducible assumption) | assumption)
                        have hx28 := bt_at a0 x7_1
                        replace p28 := eq_true p28
                        replace q28 := eq_true q28
                        go_wp2_with (first | (go_at_call 109; (with_reducible refine (spec_l03Gap.calls a0 (wrap64 (x7_1 + 1)) true _ A30.out).mono ?_); rintro e w' ⟨rfl, ⟨nd, rfl⟩⟩))
                        go_meet
                        case rel => exact ⟨_, (x7_1), (by first | rfl | (simp; done) | (simp [*]; done)), H', ⟨by have := HK1.out; have := HJ7.out; first | omega | exact Nat.le_refl _⟩, by repeat (first | exact Drawn0.refl _ | apply Drawn0.step)⟩
                      · replace c31 := Bool.eq_false_iff.mpr c31
                        subst c31
                        have H1 : (if a2 = true then (if 0 ≤ (wrap64 (x7_1 + 1)) then (if (wrap64 (x7_1 + 1)) < (a0.size : Int) then ((spec_l04Flow.f (bt a0 (wrap64 (x7_1 + 1)))).bind fun t118 => (if t118 = true then (spec_PlainEnd.j2 kj7 a0 t111 x7_1) else (spec_PlainEnd.l0 kj7 a0 t111 a2 (wrap64 (x7_1 + 1))))) else (none)) else (none)) else (spec_PlainEnd.l0 kj7 a0 t111 a2 (wrap64 (x7_1 + 1)))) = some r := by rw [if_neg (show ¬ (false = true) by decide)] at H; exact H
                        clear H
                        have H := H1
                        clear H1
                        by_cases c32 : a2 = true
                        · subst c32
                          have H1 : (if 0 ≤ (wrap64 (x7_1 + 1)) then (if (wrap64 (x7_1 + 1)) < (a0.size : Int) then ((spec_l04Flow.f (bt a0 (wrap64 (x7_1 + 1)))).bind fun t118 => (if t118 = true then (spec_PlainEnd.j2 kj7 a0 t111 x7_1) else (spec_PlainEnd.l0 kj7 a0 t111 true (wrap64 (x7_1 + 1))))) else (none)) else (none)) = some r := by rw [if_pos rfl] at H; exact H
                          clear H
                          have H := H1
                          clear H1
                          obtain ⟨ji33, hji33⟩ : ∃ j_ : Int, (wrap64 (x7_1 + 1)) = j_ := ⟨_, rfl⟩
                          replace H : (if 0 ≤ (ji33) then (if (ji33) < (a0.size : Int) then ((spec_l04Flow.f (bt a0 (ji33))).bind fun t118 => (if t118 = true then (spec_PlainEnd.j2 kj7 a0 t111 x7_1) else (spec_PlainEnd.l0 kj7 a0 t111 true ji33))) else (none)) else (none)) = some r := by first | (rw [hji33] at H; exact H) | (simp only [hji33] at H ⊢; exact H)
                          (try rw [hji33] at A30)
                          have hji33w : (IntKind.i64.wrap (x7_1 + 1)) = ji33 := (i64_w _).trans hji33
                          by_cases c34 : 0 ≤ (ji33)
                          · rw [if_pos c34] at H
                            have c34b0 : decide (0 ≤ (ji33)) = true := decide_eq_true c34
                            clear c34
                            by_cases c35 : (ji33) < (a0.size : Int)
                            · rw [if_pos c35] at H
                              have c35b0 : decide ((ji33) < (a0.size : Int)) = true := decide_eq_true c35
                              clear c35
                              replace H := Option.bind_eq_some_iff.mp H
                              obtain ⟨t118, A370, H⟩ := H
                              replace H : (if t118 = true then (spec_PlainEnd.j2 kj7 a0 t111 x7_1) else (spec_PlainEnd.l0 kj7 a0 t111 true ji33)) = some r := H
                              have A37 := Aside0.mk A370
                              clear A370
                              by_cases c38 : t118 = true
                              · subst c38
                                have H1 : (spec_PlainEnd.j2 kj7 a0 t111 x7_1) = some r := by rw [if_pos rfl] at H; exact H
                                clear H
                                have H := H1
                                clear H1
                                have H' := Aside0.mk H
                                clear H
                                have p28 : 0 ≤ (x7_1 : Int) := of_decide_eq_true (by first | (with_reducible assumption) | assumption)
                                have q28 : x7_1 < (a0.size : Int) := of_decide_eq_true (by first | (with_reducible assumption) | assumption)
                                have hx28 := bt_at a0 x7_1
                                replace p28 := eq_true p28
                                replace q28 := eq_true q28
                                go_wp2_with (first | (go_at_call 109; (with_reducible refine (spec_l03Gap.calls a0 ji33 false _ A30.out).mono ?_); rintro e w' ⟨rfl, ⟨nd, rfl⟩⟩; have p36 : 0 ≤ ((ji33) : Int) := of_decide_eq_true (by first | (with_reducible assumption) | assumption); have q36 : (ji33) < (a0.size : Int) := of_decide_eq_true (by first | (with_reducible assumption) | assumption); have hx36 := bt_at a0 (ji33); replace p36 := eq_true p36; replace q36 := eq_true q36) | (go_at_call 110; (with_reducible refine (spec_l04Flow.calls (bt a0 (ji33)) true _ A37.out).mono ?_); rintro e w' ⟨rfl, ⟨nd, rfl⟩⟩))
                                go_meet
                                case rel => exact ⟨_, (x7_1), (by first | rfl | (simp; done) | (simp [*]; done)), H', ⟨by have := HK1.out; have := HJ7.out; first | omega | exact Nat.le_refl _⟩, by repeat (first | exact Drawn0.refl _ | apply Drawn0.step)⟩
                              · replace c38 := Bool.eq_false_iff.mpr c38
                                subst c38
                                have H1 : (spec_PlainEnd.l0 kj7 a0 t111 true ji33) = some r := by rw [if_neg (show ¬ (false = true) by decide)] at H; exact H
                                clear H
                                have H := H1
                                clear H1
                                have H' := Aside0.mk H
                                clear H
                                have p28 : 0 ≤ (x7_1 : Int) := of_decide_eq_true (by first | (with_reducible assumption) | assumption)
                                have q28 : x7_1 < (a0.size : Int) := of_decide_eq_true (by first | (with_reducible assumption) | assumption)
                                have hx28 := bt_at a0 x7_1
                                replace p28 := eq_true p28
                                replace q28 := eq_true q28
                                go_wp2_with (first | (go_at_call 109; (with_reducible refine (spec_l03Gap.calls a0 ji33 false _ A30.out).mono ?_); rintro e w' ⟨rfl, ⟨nd, rfl⟩⟩; have p36 : 0 ≤ ((ji33) : Int) := of_decide_eq_true (by first | (with_reducible assumption) | assumption); have q36 : (ji33) < (a0.size : Int) := of_decide_eq_true (by first | (with_reducible assumption) | assumption); have hx36 := bt_at a0 (ji33); replace p36 := eq_true p36; replace q36 := eq_true q36) | (go_at_call 110; (with_reducible refine (spec_l04Flow.calls (bt a0 (ji33)) false _ A37.out).mono ?_); rintro e w' ⟨rfl, ⟨nd, rfl⟩⟩))
                                go_roundg kj7
                                case measure => have := HK1.out; have := HJ7.out; omega
                                case rel => exact ⟨(ji33), (by first | rfl | (simp; done) | (simp only [← hji33] <;> (first | rfl | simp)) | (simp [*]; done)), H', ⟨by have := HK1.out; have := HJ7.out; omega⟩, by repeat (first | exact Drawn0.refl _ | apply Drawn0.step)⟩
                            · rw [if_neg c35] at H
                              exact absurd H (by simp)
                          · rw [if_neg c34] at H
                            exact absurd H (by simp)
                        · replace c32 := Bool.eq_false_iff.mpr c32
                          subst c32
                          have H1 : (spec_PlainEnd.l0 kj7 a0 t111 false (wrap64 (x7_1 + 1))) = some r := by rw [if_neg (show ¬ (false = true) by decide)] at H; exact H
                          clear H
                          have H := H1
                          clear H1
                          have H' := Aside0.mk H
                          clear H
                          have p28 : 0 ≤ (x7_1 : Int) := of_decide_eq_true (by first | (with_reducible assumption) | assumption)
                          have q28 : x7_1 < (a0.size : Int) := of_decide_eq_true (by first | (with_reducible assumption) | assumption)
                          have hx28 := bt_at a0 x7_1
                          replace p28 := eq_true p28
                          replace q28 := eq_true q28
                          go_wp2_with (first | (go_at_call 109; (with_reducible refine (spec_l03Gap.calls a0 (wrap64 (x7_1 + 1)) false _ A30.out).mono ?_); rintro e w' ⟨rfl, ⟨nd, rfl⟩⟩))
                          go_roundg kj7
                          case measure => have := HK1.out; have := HJ7.out; omega
                          case rel => exact ⟨(wrap64 (x7_1 + 1)), (by first | rfl | (simp; done) | (simp [*]; done)), H', ⟨by have := HK1.out; have := HJ7.out; omega⟩, by repeat (first | exact Drawn0.refl _ | apply Drawn0.step)⟩
                    · rw [if_neg c29] at H
                      have c29b0 : ((bt a0 x7_1) == 58) = false := beq_eq_false_iff_ne.mpr c29
                      have c29b1 : ((bt a0 x7_1) != 58) = true := bne_iff_ne.mpr c29
                      have H' := Aside0.mk H
                      clear H
                      have p28 : 0 ≤ (x7_1 : Int) := of_decide_eq_true (by first | (with_reducible assumption) | assumption)
                      have q28 : x7_1 < (a0.size : Int) := of_decide_eq_true (by first | (with_reducible assumption) | assumption)
                      have hx28 := bt_at a0 x7_1
                      replace p28 := eq_true p28
                      replace q28 := eq_true q28
                      go_wp2
                      go_roundg kj7
                      case measure => have := HK1.out; have := HJ7.out; omega
                      case rel => exact ⟨(wrap64 (x7_1 + 1)), (by first | rfl | (simp; done) | (simp [*]; done)), H', ⟨by have := HK1.out; have := HJ7.out; omega⟩, by repeat (first | exact Drawn0.refl _ | apply Drawn0.step)⟩
                  · rw [if_neg c27] at H
                    exact absurd H (by simp)
                · rw [if_neg c26] at H
                  exact absurd H (by simp)
  case rest =>
    clear HC5
    try clear c1
    try clear p1
    try clear q1
    try clear hx1
    try clear c2
    try clear p2
    try clear q2
    try clear hx2
    try clear c3
    try clear p3
    try clear q3
    try clear hx3
    try clear c5
    try clear p6
    try clear c7
    try clear c9
    try clear c9b0
    try clear c10
    try clear c10b0
    try clear c11
    try clear p11
    try clear q11
    try clear hx11
    try clear c12
    try clear c12b0
    try clear c12b1
    try clear c13
    try clear c13b0
    try clear c15
    try clear c16
    try clear p17
    try clear q17
    try clear hx17
    try clear c19
    try clear p20
    try clear q20
    try clear hx20
    try clear c22
    try clear p23
    try clear q23
    try clear hx23
    try clear c25
    try clear c26
    try clear c26b0
    try clear c27
    try clear c27b0
    try clear p28
    try clear q28
    try clear hx28
    try clear c29
    try clear c29b0
    try clear c29b1
    try clear c31
    try clear c32
    try clear c34
    try clear c34b0
    try clear c35
    try clear c35b0
    try clear p36
    try clear q36
    try clear hx36
    try clear c38
    try clear p1
    try clear p11
    try clear p17
    try clear p2
    try clear p20
    try clear p23
    try clear p28
    try clear p36
    try clear p6
    try clear q1
    try clear q11
    try clear q17
    try clear q2
    try clear q20
    try clear q23
    try clear q28
    try clear q36
    obtain ⟨kq, x7_4, rfl, HA, HJ4, ⟨mc4, rfl⟩⟩ := hcut
    cases kq with
    | zero => exact absurd HA.out (by simp [spec_PlainEnd.j2])
    | succ kj4 =>
      have H := HA.out
      clear HA
      simp only [spec_PlainEnd.j2] at H
      have H' := Aside0.mk H
      clear H
      go_wp2
      go_loopg [7] kj4 (fun kq v7 w' => ∃ (x7_2 : Int), v7 = .int .i64 x7_2 ∧ Aside0 (spec_PlainEnd.l1 kq a0 t111 x7_2 = some r) ∧ Aside0 (kq ≤ kj4) ∧ Drawn0 w w')
      case atStart => exact ⟨(x7_4), (by first | rfl | (simp; done) | (simp [*]; done)), H', ⟨Nat.le_refl _⟩, by repeat (first | exact Drawn0.refl _ | apply Drawn0.step)⟩
      case round =>
        clear H'
        try clear c1
        try clear p1
        try clear q1
        try clear hx1
        try clear c2
        try clear p2
        try clear q2
        try clear hx2
        try clear c3
        try clear p3
        try clear q3
        try clear hx3
        try clear c4
        try clear c5
        try clear p6
        try clear c7
        try clear c9
        try clear c9b0
        try clear c10
        try clear c10b0
        try clear c11
        try clear p11
        try clear q11
        try clear hx11
        try clear c12
        try clear c12b0
        try clear c12b1
        try clear c13
        try clear c13b0
        try clear c15
        try clear c16
        try clear p17
        try clear q17
        try clear hx17
        try clear c19
        try clear p20
        try clear q20
        try clear hx20
        try clear c22
        try clear p23
        try clear q23
        try clear hx23
        try clear c25
        try clear c26
        try clear c26b0
        try clear c27
        try clear c27b0
        try clear p28
        try clear q28
        try clear hx28
        try clear c29
        try clear c29b0
        try clear c29b1
        try clear c31
        try clear c32
        try clear c34
        try clear c34b0
        try clear c35
        try clear c35b0
        try clear p36
        try clear q36
        try clear hx36
        try clear c38
        try clear p1
        try clear p11
        try clear p17
        try clear p2
        try clear p20
        try clear p23
        try clear p28
        try clear p3
        try clear p36
        try clear p6
        try clear q1
        try clear q11
        try clear q17
        try clear q2
        try clear q20
        try clear q23
        try clear q28
        try clear q3
        try clear q36
        obtain ⟨x7_2, rfl, HA, HK2, ⟨m2, rfl⟩⟩ := hrel
        cases gk with
        | zero => exact absurd HA.out (by simp [spec_PlainEnd.l1])
        | succ k2 =>
          have H := HA.out
          clear HA
          simp only [spec_PlainEnd.l1] at H
          by_cases c39 : x7_2 > t111
          · rw [if_pos c39] at H
            have c39b0 : decide (t111 < x7_2) = true := decide_eq_true c39
            clear c39
            replace H := Option.bind_eq_some_iff.mp H
            obtain ⟨t119, A400, H⟩ := H
            replace H : (if t119 = true then (spec_PlainEnd.l1 k2 a0 t111 (wrap64 (x7_2 - 1))) else (some x7_2)) = some r := H
            have A40 := Aside0.mk A400
            clear A400
            by_cases c41 : t119 = true
            · subst c41
              have H1 : (spec_PlainEnd.l1 k2 a0 t111 (wrap64 (x7_2 - 1))) = some r := by rw [if_pos rfl] at H; exact H
              clear H
              have H := H1
              clear H1
              have H' := Aside0.mk H
              clear H
              go_wp2_with (first | (go_at_call 112; (with_reducible refine (spec_l03White.calls a0 (wrap64 (x7_2 - 1)) true _ A40.out).mono ?_); rintro e w' ⟨rfl, ⟨nd, rfl⟩⟩))
              go_roundg k2
              case measure => have := HJ4.out; have := HK2.out; omega
              case rel => exact ⟨(wrap64 (x7_2 - 1)), (by first | rfl | (simp; done) | (simp [*]; done)), H', ⟨by have := HJ4.out; have := HK2.out; omega⟩, by repeat (first | exact Drawn0.refl _ | apply Drawn0.step)⟩
            · replace c41 := Bool.eq_false_iff.mpr c41
              subst c41
              have H1 : (some x7_2) = some r := by rw [if_neg (show ¬ (false = true) by decide)] at H; exact H
              clear H
              have H := H1
              clear H1
              obtain rfl := Option.some.inj H
              go_wp2_with (first | (go_at_call 112; (with_reducible refine (spec_l03White.calls a0 (wrap64 (x7_2 - 1)) false _ A40.out).mono ?_); rintro e w' ⟨rfl, ⟨nd, rfl⟩⟩))
              go_ret
              exact ⟨by first | rfl | (simp; done) | (simp [*]; done), by repeat (first | exact Drawn0.refl _ | apply Drawn0.step)⟩
          · rw [if_neg c39] at H
            have c39b0 : decide (t111 < x7_2) = false := decide_eq_false c39
            clear c39
            obtain rfl := Option.some.inj H
            go_wp2
            go_ret
            exact ⟨by first | rfl | (simp; done) | (simp [*]; done), by repeat (first | exact Drawn0.refl _ | apply Drawn0.step)⟩

/-! ### spec_White: function 59 -/
def spec_White.l0 : Nat → ByteArray → Int → Option (Int)
  | 0, _, _ => none
  | k + 1, x0, x1 => (spec_l03White.f x0 x1).bind fun t121 => (if t121 = true then (spec_White.l0 k x0 (wrap64 (x1 + 1))) else (some x1))
def spec_White.f (k : Nat) (a0 : ByteArray) (a1 : Int) : Option (Int) := (spec_l01P.f a0 a1).bind fun t120 => (spec_White.l0 k a0 t120)
theorem spec_White.mono_l : ∀ k, (∀ y0 y1, LeO (spec_White.l0 k y0 y1) (spec_White.l0 (k + 1) y0 y1))
  | 0 => fun _ _ r h => by simp [spec_White.l0] at h
  | k + 1 => by
    have ih0 := spec_White.mono_l k
    · intro y0 y1
      unfold spec_White.l0
      repeat' first
      | (with_reducible exact ih0 _ _)
      | (with_reducible exact LeO.refl _)
      | (with_reducible exact LeO.none _)
      | (with_reducible refine LeO.ite ?_ ?_)
      | (with_reducible refine LeO.bind ?_ (fun _ => ?_))
      | exact ih0 _ _
      | exact LeO.none _
      | refine LeO.ite ?_ ?_
      | refine LeO.bind ?_ (fun _ => ?_)
theorem spec_White.mono : ∀ a0 a1 k, LeO (spec_White.f k a0 a1) (spec_White.f (k + 1) a0 a1) := by
  intro a0 a1 k
  have ih0 := spec_White.mono_l k
  unfold spec_White.f
  repeat' first
      | (with_reducible exact ih0 _ _)
      | (with_reducible exact LeO.refl _)
      | (with_reducible exact LeO.none _)
      | (with_reducible refine LeO.ite ?_ ?_)
      | (with_reducible refine LeO.bind ?_ (fun _ => ?_))
      | exact ih0 _ _
      | exact LeO.none _
      | refine LeO.ite ?_ ?_
      | refine LeO.bind ?_ (fun _ => ?_)
set_option maxHeartbeats 8000000 in
set_option maxRecDepth 100000 in
theorem spec_White.calls (k : Nat) (a0 : ByteArray) (a1 : Int) (r : Int) (w : World) (h : spec_White.f k a0 a1 = some r) :
    Calls Try.prog 59 #[.string a0, .int .i64 a1] w fun e w' => e = .returned (.int .i64 r) ∧ Drawn0 w w' := by
  have H : ((spec_l01P.f a0 a1).bind fun t120 => (spec_White.l0 k a0 t120)) = some r := h
  clear h
  replace H := Option.bind_eq_some_iff.mp H
  obtain ⟨t120, A30, H⟩ := H
  replace H : (spec_White.l0 k a0 t120) = some r := H
  have A3 := Aside0.mk A30
  clear A30
  have H' := Aside0.mk H
  clear H
  go_enter Try.func59, Try.ntmps59
  go_wp2_with (first | ((with_reducible refine gate_callee (f := 56) rfl ?_); refine goesL_ (some 7) rfl rfl Try.func56 (by kernel_rfl) rfl #[.string a0, .int .i64 a1] rfl (by (try simp only [List.map_toArray, List.map_cons, List.map_nil]); first | done | rfl | (simp only [List.length_drop, List.length_take]; rfl)) ?_; (with_reducible refine (spec_l01P.calls a0 a1 t120 _ A3.out).mono ?_); rintro e w' ⟨rfl, ⟨nd, rfl⟩⟩; refine ⟨_, rfl, ?_⟩))
  go_loopg [1] k (fun kq v1 w' => ∃ (x1_1 : Int), v1 = .int .i64 x1_1 ∧ Aside0 (spec_White.l0 kq a0 x1_1 = some r) ∧ Aside0 (kq ≤ k) ∧ Drawn0 w w')
  case atStart => exact ⟨(t120), (by first | rfl | (simp; done) | (simp [*]; done)), H', ⟨Nat.le_refl _⟩, by repeat (first | exact Drawn0.refl _ | apply Drawn0.step)⟩
  case round =>
    clear H'
    try clear p2
    obtain ⟨x1_1, rfl, HA, HK1, ⟨m1, rfl⟩⟩ := hrel
    cases gk with
    | zero => exact absurd HA.out (by simp [spec_White.l0])
    | succ k1 =>
      have H := HA.out
      clear HA
      simp only [spec_White.l0] at H
      replace H := Option.bind_eq_some_iff.mp H
      obtain ⟨t121, A40, H⟩ := H
      replace H : (if t121 = true then (spec_White.l0 k1 a0 (wrap64 (x1_1 + 1))) else (some x1_1)) = some r := H
      have A4 := Aside0.mk A40
      clear A40
      by_cases c5 : t121 = true
      · subst c5
        have H1 : (spec_White.l0 k1 a0 (wrap64 (x1_1 + 1))) = some r := by rw [if_pos rfl] at H; exact H
        clear H
        have H := H1
        clear H1
        have H' := Aside0.mk H
        clear H
        go_wp2_with (first | ((with_reducible refine gate_callee (f := 112) rfl ?_); refine goesL_ (some 10) rfl rfl Try.func112 (by kernel_rfl) rfl #[.string a0, .int .i64 x1_1] rfl (by (try simp only [List.map_toArray, List.map_cons, List.map_nil]); first | done | rfl | (simp only [List.length_drop, List.length_take]; rfl)) ?_; (with_reducible refine (spec_l03White.calls a0 x1_1 true _ A4.out).mono ?_); rintro e w' ⟨rfl, ⟨nd, rfl⟩⟩; refine ⟨_, rfl, ?_⟩))
        go_roundg k1
        case measure => have := HK1.out; omega
        case rel => exact ⟨(wrap64 (x1_1 + 1)), (by first | rfl | (simp; done) | (simp [*]; done)), H', ⟨by have := HK1.out; omega⟩, by repeat (first | exact Drawn0.refl _ | apply Drawn0.step)⟩
      · replace c5 := Bool.eq_false_iff.mpr c5
        subst c5
        have H1 : (some x1_1) = some r := by rw [if_neg (show ¬ (false = true) by decide)] at H; exact H
        clear H
        have H := H1
        clear H1
        obtain rfl := Option.some.inj H
        go_wp2_with (first | ((with_reducible refine gate_callee (f := 112) rfl ?_); refine goesL_ (some 10) rfl rfl Try.func112 (by kernel_rfl) rfl #[.string a0, .int .i64 x1_1] rfl (by (try simp only [List.map_toArray, List.map_cons, List.map_nil]); first | done | rfl | (simp only [List.length_drop, List.length_take]; rfl)) ?_; (with_reducible refine (spec_l03White.calls a0 x1_1 false _ A4.out).mono ?_); rintro e w' ⟨rfl, ⟨nd, rfl⟩⟩; refine ⟨_, rfl, ?_⟩))
        go_ret
        exact ⟨by first | rfl | (simp; done) | (simp [*]; done), by repeat (first | exact Drawn0.refl _ | apply Drawn0.step)⟩

end Go.Proofs.Ytglmjmkbahfgaaa.PFnExactPlainAt
