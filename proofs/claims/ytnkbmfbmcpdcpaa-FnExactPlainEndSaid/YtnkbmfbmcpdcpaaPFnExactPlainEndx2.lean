-- PRINTED BY print.sh 35421559b90ae4d0a3588c463048766b98c2df88dd9212a6774a882060cdf62d: not written by this session
import Derived.Test.YtnkbmfbmcpdcpaaPFnExactPlainEndx0
import Derived.Test.YtnkbmfbmcpdcpaaPFnExactPlainEndx1
namespace Go.Proofs.Ytnkbmfbmcpdcpaa.PFnExactPlainEnd
open Go.RowKit Go.Proofs.YtnkbmfbmcpdcpaaW.PrintWords Go.Proofs.YtnkbmfbmcpdcpaaW.PrintLast Go.Proofs.YtnkbmfbmcpdcpaaW.PrintMore
attribute [local go_sem] max2_int min2_int max_two min_two max_three min_three max_four min_four   -- for this text's walks alone
set_option linter.unusedVariables false
set_option linter.unusedSimpArgs false

/-! ### spec_PlainEnd: function 17 -/
mutual
def spec_PlainEnd.j2 : Nat → ByteArray → Int → Int → Option (Int)
  | 0, _, _, _ => none
  | k + 1, x0, x1, x7 => spec_PlainEnd.l1 k x0 x1 x7
def spec_PlainEnd.l1 : Nat → ByteArray → Int → Int → Option (Int)
  | 0, _, _, _ => none
  | k + 1, x0, x1, x7 => if x7 > x1 then ((spec_l03White.f x0 (wrap64 (x7 - 1))).bind fun t111 => (if t111 = true then (spec_PlainEnd.l1 k x0 x1 (wrap64 (x7 - 1))) else (some x7))) else (some x7)
def spec_PlainEnd.l0 : Nat → ByteArray → Int → Bool → Int → Option (Int)
  | 0, _, _, _, _ => none
  | k + 1, x0, x1, x2, x7 => (spec_l03Break.f x0 x7).bind fun t104 => (if t104 = true then (spec_PlainEnd.j2 k x0 x1 x7) else (if 0 ≤ x7 then (if x7 < (x0.size : Int) then (if (bt x0 x7) = 35 then (if x7 > x1 then ((spec_l03White.f x0 (wrap64 (x7 - 1))).bind fun t105 => (if t105 = true then (spec_PlainEnd.j1 k x0 x1 x2 x7 true) else (if x2 = true then ((spec_l04Flow.f (bt x0 x7)).bind fun t106 => (spec_PlainEnd.j1 k x0 x1 x2 x7 t106)) else (spec_PlainEnd.j1 k x0 x1 x2 x7 false)))) else (if x2 = true then ((spec_l04Flow.f (bt x0 x7)).bind fun t107 => (spec_PlainEnd.j1 k x0 x1 x2 x7 t107)) else (spec_PlainEnd.j1 k x0 x1 x2 x7 false))) else (if x2 = true then ((spec_l04Flow.f (bt x0 x7)).bind fun t108 => (spec_PlainEnd.j1 k x0 x1 x2 x7 t108)) else (spec_PlainEnd.j1 k x0 x1 x2 x7 false))) else (none)) else (none)))
def spec_PlainEnd.j1 : Nat → ByteArray → Int → Bool → Int → Bool → Option (Int)
  | 0, _, _, _, _, _ => none
  | k + 1, x0, x1, x2, x7, x39 => if x39 = true then (spec_PlainEnd.j2 k x0 x1 x7) else (if 0 ≤ x7 then (if x7 < (x0.size : Int) then (if (bt x0 x7) = 58 then ((spec_l03Gap.f x0 (wrap64 (x7 + 1))).bind fun t109 => (if t109 = true then (spec_PlainEnd.j2 k x0 x1 x7) else (if x2 = true then (if 0 ≤ (wrap64 (x7 + 1)) then (if (wrap64 (x7 + 1)) < (x0.size : Int) then ((spec_l04Flow.f (bt x0 (wrap64 (x7 + 1)))).bind fun t110 => (if t110 = true then (spec_PlainEnd.j2 k x0 x1 x7) else (spec_PlainEnd.l0 k x0 x1 x2 (wrap64 (x7 + 1))))) else (none)) else (none)) else (spec_PlainEnd.l0 k x0 x1 x2 (wrap64 (x7 + 1)))))) else (spec_PlainEnd.l0 k x0 x1 x2 (wrap64 (x7 + 1)))) else (none)) else (none))
end
def spec_PlainEnd.f (k : Nat) (a0 : ByteArray) (a1 : Int) (a2 : Bool) : Option (Int) := (spec_l01P.f a0 a1).bind fun t103 => (spec_PlainEnd.l0 k a0 t103 a2 t103)
theorem spec_PlainEnd.mono_l : ∀ k, (∀ y0 y1 y2, LeO (spec_PlainEnd.j2 k y0 y1 y2) (spec_PlainEnd.j2 (k + 1) y0 y1 y2)) ∧ (∀ y0 y1 y2, LeO (spec_PlainEnd.l1 k y0 y1 y2) (spec_PlainEnd.l1 (k + 1) y0 y1 y2)) ∧ (∀ y0 y1 y2 y3, LeO (spec_PlainEnd.l0 k y0 y1 y2 y3) (spec_PlainEnd.l0 (k + 1) y0 y1 y2 y3)) ∧ (∀ y0 y1 y2 y3 y4, LeO (spec_PlainEnd.j1 k y0 y1 y2 y3 y4) (spec_PlainEnd.j1 (k + 1) y0 y1 y2 y3 y4))
  | 0 => ⟨fun _ _ _ r h => by simp [spec_PlainEnd.j2] at h, fun _ _ _ r h => by simp [spec_PlainEnd.l1] at h, fun _ _ _ _ r h => by simp [spec_PlainEnd.l0] at h, fun _ _ _ _ _ r h => by simp [spec_PlainEnd.j1] at h⟩
  | k + 1 => by
    obtain ⟨ih0, ih1, ih2, ih3⟩ := spec_PlainEnd.mono_l k
    refine ⟨?_, ?_, ?_, ?_⟩
    · intro y0 y1 y2
      unfold spec_PlainEnd.j2
      repeat' first
      | (with_reducible exact ih0 _ _ _)
      | (with_reducible exact ih1 _ _ _)
      | (with_reducible exact ih2 _ _ _ _)
      | (with_reducible exact ih3 _ _ _ _ _)
      | (with_reducible exact LeO.refl _)
      | (with_reducible exact LeO.none _)
      | (with_reducible refine LeO.ite ?_ ?_)
      | (with_reducible refine LeO.bind ?_ (fun _ => ?_))
      | exact ih0 _ _ _
      | exact ih1 _ _ _
      | exact ih2 _ _ _ _
      | exact ih3 _ _ _ _ _
      | exact LeO.none _
      | refine LeO.ite ?_ ?_
      | refine LeO.bind ?_ (fun _ => ?_)
    · intro y0 y1 y2
      unfold spec_PlainEnd.l1
      repeat' first
      | (with_reducible exact ih0 _ _ _)
      | (with_reducible exact ih1 _ _ _)
      | (with_reducible exact ih2 _ _ _ _)
      | (with_reducible exact ih3 _ _ _ _ _)
      | (with_reducible exact LeO.refl _)
      | (with_reducible exact LeO.none _)
      | (with_reducible refine LeO.ite ?_ ?_)
      | (with_reducible refine LeO.bind ?_ (fun _ => ?_))
      | exact ih0 _ _ _
      | exact ih1 _ _ _
      | exact ih2 _ _ _ _
      | exact ih3 _ _ _ _ _
      | exact LeO.none _
      | refine LeO.ite ?_ ?_
      | refine LeO.bind ?_ (fun _ => ?_)
    · intro y0 y1 y2 y3
      unfold spec_PlainEnd.l0
      repeat' first
      | (with_reducible exact ih0 _ _ _)
      | (with_reducible exact ih1 _ _ _)
      | (with_reducible exact ih2 _ _ _ _)
      | (with_reducible exact ih3 _ _ _ _ _)
      | (with_reducible exact LeO.refl _)
      | (with_reducible exact LeO.none _)
      | (with_reducible refine LeO.ite ?_ ?_)
      | (with_reducible refine LeO.bind ?_ (fun _ => ?_))
      | exact ih0 _ _ _
      | exact ih1 _ _ _
      | exact ih2 _ _ _ _
      | exact ih3 _ _ _ _ _
      | exact LeO.none _
      | refine LeO.ite ?_ ?_
      | refine LeO.bind ?_ (fun _ => ?_)
    · intro y0 y1 y2 y3 y4
      unfold spec_PlainEnd.j1
      repeat' first
      | (with_reducible exact ih0 _ _ _)
      | (with_reducible exact ih1 _ _ _)
      | (with_reducible exact ih2 _ _ _ _)
      | (with_reducible exact ih3 _ _ _ _ _)
      | (with_reducible exact LeO.refl _)
      | (with_reducible exact LeO.none _)
      | (with_reducible refine LeO.ite ?_ ?_)
      | (with_reducible refine LeO.bind ?_ (fun _ => ?_))
      | exact ih0 _ _ _
      | exact ih1 _ _ _
      | exact ih2 _ _ _ _
      | exact ih3 _ _ _ _ _
      | exact LeO.none _
      | refine LeO.ite ?_ ?_
      | refine LeO.bind ?_ (fun _ => ?_)
theorem spec_PlainEnd.mono : ∀ a0 a1 a2 k, LeO (spec_PlainEnd.f k a0 a1 a2) (spec_PlainEnd.f (k + 1) a0 a1 a2) := by
  intro a0 a1 a2 k
  obtain ⟨ih0, ih1, ih2, ih3⟩ := spec_PlainEnd.mono_l k
  unfold spec_PlainEnd.f
  repeat' first
      | (with_reducible exact ih0 _ _ _)
      | (with_reducible exact ih1 _ _ _)
      | (with_reducible exact ih2 _ _ _ _)
      | (with_reducible exact ih3 _ _ _ _ _)
      | (with_reducible exact LeO.refl _)
      | (with_reducible exact LeO.none _)
      | (with_reducible refine LeO.ite ?_ ?_)
      | (with_reducible refine LeO.bind ?_ (fun _ => ?_))
      | exact ih0 _ _ _
      | exact ih1 _ _ _
      | exact ih2 _ _ _ _
      | exact ih3 _ _ _ _ _
      | exact LeO.none _
      | refine LeO.ite ?_ ?_
      | refine LeO.bind ?_ (fun _ => ?_)
set_option maxHeartbeats 8000000 in
set_option maxRecDepth 100000 in
theorem spec_PlainEnd.calls (k : Nat) (a0 : ByteArray) (a1 : Int) (a2 : Bool) (r : Int) (w : World) (h : spec_PlainEnd.f k a0 a1 a2 = some r) :
    Calls Try.prog 17 #[.string a0, .int .i64 a1, .bool a2] w fun e w' => e = .returned (.int .i64 r) ∧ Drawn0 w w' := by
  have H : ((spec_l01P.f a0 a1).bind fun t103 => (spec_PlainEnd.l0 k a0 t103 a2 t103)) = some r := h
  clear h
  replace H := Option.bind_eq_some_iff.mp H
  obtain ⟨t103, A40, H⟩ := H
  replace H : (spec_PlainEnd.l0 k a0 t103 a2 t103) = some r := H
  have A4 := Aside0.mk A40
  clear A40
  have HC5 := Aside0.mk H
  clear H
  go_enter Try.func17, Try.ntmps17
  go_upto_block 0 with (first | ((with_reducible refine gate_callee (f := 44) rfl ?_); refine goesL_ (some 10) rfl rfl Try.func44 (by kernel_rfl) rfl #[.string a0, .int .i64 a1] rfl (by (try simp only [List.map_toArray, List.map_cons, List.map_nil]); first | done | rfl | (simp only [List.length_drop, List.length_take]; rfl)) ?_; (with_reducible refine (spec_l01P.calls a0 a1 t103 _ A4.out).mono ?_); rintro e w' ⟨rfl, ⟨nd, rfl⟩⟩; refine ⟨_, rfl, ?_⟩))
  (try simp only [Act.put, List.setIfInBounds_toArray, List.set_cons_zero, List.set_cons_succ])
  go_cut [7] (fun v7 wc => ∃ (kq : Nat) (x7_4 : Int), v7 = .int .i64 x7_4 ∧ Aside0 (spec_PlainEnd.j2 kq a0 t103 x7_4 = some r) ∧ Aside0 (kq ≤ k) ∧ Drawn0 w wc)
  case first =>
    have H := HC5.out
    clear HC5
    have H' := Aside0.mk H
    clear H
    go_wp2
    go_loopg [7] k (fun kq v7 w' => ∃ (x7_1 : Int), v7 = .int .i64 x7_1 ∧ Aside0 (spec_PlainEnd.l0 kq a0 t103 a2 x7_1 = some r) ∧ Aside0 (kq ≤ k) ∧ Drawn0 w w')
    case atStart => exact ⟨(t103), (by first | rfl | (simp; done) | (simp [*]; done)), H', ⟨Nat.le_refl _⟩, by repeat (first | exact Drawn0.refl _ | apply Drawn0.step)⟩
    case round =>
      clear H'
      try clear c1
      try clear p2
      try clear c4
      obtain ⟨x7_1, rfl, HA, HK1, ⟨m1, rfl⟩⟩ := hrel
      cases gk with
      | zero => exact absurd HA.out (by simp [spec_PlainEnd.l0])
      | succ k1 =>
        have H := HA.out
        clear HA
        simp only [spec_PlainEnd.l0] at H
        replace H := Option.bind_eq_some_iff.mp H
        obtain ⟨t104, A60, H⟩ := H
        replace H : (if t104 = true then (spec_PlainEnd.j2 k1 a0 t103 x7_1) else (if 0 ≤ x7_1 then (if x7_1 < (a0.size : Int) then (if (bt a0 x7_1) = 35 then (if x7_1 > t103 then ((spec_l03White.f a0 (wrap64 (x7_1 - 1))).bind fun t105 => (if t105 = true then (spec_PlainEnd.j1 k1 a0 t103 a2 x7_1 true) else (if a2 = true then ((spec_l04Flow.f (bt a0 x7_1)).bind fun t106 => (spec_PlainEnd.j1 k1 a0 t103 a2 x7_1 t106)) else (spec_PlainEnd.j1 k1 a0 t103 a2 x7_1 false)))) else (if a2 = true then ((spec_l04Flow.f (bt a0 x7_1)).bind fun t107 => (spec_PlainEnd.j1 k1 a0 t103 a2 x7_1 t107)) else (spec_PlainEnd.j1 k1 a0 t103 a2 x7_1 false))) else (if a2 = true then ((spec_l04Flow.f (bt a0 x7_1)).bind fun t108 => (spec_PlainEnd.j1 k1 a0 t103 a2 x7_1 t108)) else (spec_PlainEnd.j1 k1 a0 t103 a2 x7_1 false))) else (none)) else (none))) = some r := H
        have A6 := Aside0.mk A60
        clear A60
        by_cases c7 : t104 = true
        · subst c7
          have H1 : (spec_PlainEnd.j2 k1 a0 t103 x7_1) = some r := by rw [if_pos rfl] at H; exact H
          clear H
          have H := H1
          clear H1
          have H' := Aside0.mk H
          clear H
          go_wp2_with (first | ((with_reducible refine gate_callee (f := 37) rfl ?_); refine goesL_ (some 14) rfl rfl Try.func37 (by kernel_rfl) rfl #[.string a0, .int .i64 x7_1] rfl (by (try simp only [List.map_toArray, List.map_cons, List.map_nil]); first | done | rfl | (simp only [List.length_drop, List.length_take]; rfl)) ?_; (with_reducible refine (spec_l03Break.calls a0 x7_1 true _ A6.out).mono ?_); rintro e w' ⟨rfl, ⟨nd, rfl⟩⟩; refine ⟨_, rfl, ?_⟩))
          go_meet
          case rel => exact ⟨_, (x7_1), (by first | rfl | (simp; done) | (simp [*]; done)), H', ⟨by have := HK1.out; first | omega | exact Nat.le_refl _⟩, by repeat (first | exact Drawn0.refl _ | apply Drawn0.step)⟩
        · replace c7 := Bool.eq_false_iff.mpr c7
          subst c7
          have H1 : (if 0 ≤ x7_1 then (if x7_1 < (a0.size : Int) then (if (bt a0 x7_1) = 35 then (if x7_1 > t103 then ((spec_l03White.f a0 (wrap64 (x7_1 - 1))).bind fun t105 => (if t105 = true then (spec_PlainEnd.j1 k1 a0 t103 a2 x7_1 true) else (if a2 = true then ((spec_l04Flow.f (bt a0 x7_1)).bind fun t106 => (spec_PlainEnd.j1 k1 a0 t103 a2 x7_1 t106)) else (spec_PlainEnd.j1 k1 a0 t103 a2 x7_1 false)))) else (if a2 = true then ((spec_l04Flow.f (bt a0 x7_1)).bind fun t107 => (spec_PlainEnd.j1 k1 a0 t103 a2 x7_1 t107)) else (spec_PlainEnd.j1 k1 a0 t103 a2 x7_1 false))) else (if a2 = true then ((spec_l04Flow.f (bt a0 x7_1)).bind fun t108 => (spec_PlainEnd.j1 k1 a0 t103 a2 x7_1 t108)) else (spec_PlainEnd.j1 k1 a0 t103 a2 x7_1 false))) else (none)) else (none)) = some r := by rw [if_neg (show ¬ (false = true) by decide)] at H; exact H
          clear H
          have H := H1
          clear H1
          have HC8 := Aside0.mk H
          clear H
          go_upto_region 4 with (first | ((with_reducible refine gate_callee (f := 37) rfl ?_); refine goesL_ (some 14) rfl rfl Try.func37 (by kernel_rfl) rfl #[.string a0, .int .i64 x7_1] rfl (by (try simp only [List.map_toArray, List.map_cons, List.map_nil]); first | done | rfl | (simp only [List.length_drop, List.length_take]; rfl)) ?_; (with_reducible refine (spec_l03Break.calls a0 x7_1 false _ A6.out).mono ?_); rintro e w' ⟨rfl, ⟨nd, rfl⟩⟩; refine ⟨_, rfl, ?_⟩))
          (try simp only [Act.put, List.setIfInBounds_toArray, List.set_cons_zero, List.set_cons_succ])
          go_cut [39] (fun v39 wc => ∃ (kq : Nat) (x39_7 : Bool), v39 = .bool x39_7 ∧ Aside0 (spec_PlainEnd.j1 kq a0 t103 a2 x7_1 x39_7 = some r) ∧ Aside0 (kq ≤ k1) ∧ Drawn0 w wc)
          case first =>
            have H := HC8.out
            clear HC8
            by_cases c9 : 0 ≤ x7_1
            · rw [if_pos c9] at H
              have c9b0 : decide (0 ≤ x7_1) = true := decide_eq_true c9
              clear c9
              (first | rw [c9b0] | (simp only [i64_w, i32_w]; rw [c9b0]) | skip)
              by_cases c10 : x7_1 < (a0.size : Int)
              · rw [if_pos c10] at H
                have c10b0 : decide (x7_1 < (a0.size : Int)) = true := decide_eq_true c10
                clear c10
                by_cases c12 : (bt a0 x7_1) = 35
                · rw [if_pos c12] at H
                  have c12b0 : ((bt a0 x7_1) == 35) = true := beq_iff_eq.mpr c12
                  have c12b1 : ((bt a0 x7_1) != 35) = false := bne_eq_false_iff_eq.mpr c12
                  clear c12
                  by_cases c13 : x7_1 > t103
                  · rw [if_pos c13] at H
                    have c13b0 : decide (t103 < x7_1) = true := decide_eq_true c13
                    clear c13
                    replace H := Option.bind_eq_some_iff.mp H
                    obtain ⟨t105, A140, H⟩ := H
                    replace H : (if t105 = true then (spec_PlainEnd.j1 k1 a0 t103 a2 x7_1 true) else (if a2 = true then ((spec_l04Flow.f (bt a0 x7_1)).bind fun t106 => (spec_PlainEnd.j1 k1 a0 t103 a2 x7_1 t106)) else (spec_PlainEnd.j1 k1 a0 t103 a2 x7_1 false))) = some r := H
                    have A14 := Aside0.mk A140
                    clear A140
                    by_cases c15 : t105 = true
                    · subst c15
                      have H1 : (spec_PlainEnd.j1 k1 a0 t103 a2 x7_1 true) = some r := by rw [if_pos rfl] at H; exact H
                      clear H
                      have H := H1
                      clear H1
                      have H' := Aside0.mk H
                      clear H
                      have p11 : 0 ≤ (x7_1 : Int) := of_decide_eq_true (by first | (with_reducible assumption) | assumption)
                      have q11 : x7_1 < (a0.size : Int) := of_decide_eq_true (by first | (with_reducible assumption) | assumption)
                      have hx11 := bt_at a0 x7_1
                      replace p11 := eq_true p11
                      replace q11 := eq_true q11
                      go_wp2_with (first | (go_at_call 51; (with_reducible refine (spec_l03White.calls a0 (wrap64 (x7_1 - 1)) true _ A14.out).mono ?_); rintro e w' ⟨rfl, ⟨nd, rfl⟩⟩))
                      go_meet
                      case rel => exact ⟨_, (true), (by first | rfl | (simp; done) | (simp [*]; done)), H', ⟨by have := HK1.out; first | omega | exact Nat.le_refl _⟩, by repeat (first | exact Drawn0.refl _ | apply Drawn0.step)⟩
                    · replace c15 := Bool.eq_false_iff.mpr c15
                      subst c15
                      have H1 : (if a2 = true then ((spec_l04Flow.f (bt a0 x7_1)).bind fun t106 => (spec_PlainEnd.j1 k1 a0 t103 a2 x7_1 t106)) else (spec_PlainEnd.j1 k1 a0 t103 a2 x7_1 false)) = some r := by rw [if_neg (show ¬ (false = true) by decide)] at H; exact H
                      clear H
                      have H := H1
                      clear H1
                      by_cases c16 : a2 = true
                      · subst c16
                        have H1 : ((spec_l04Flow.f (bt a0 x7_1)).bind fun t106 => (spec_PlainEnd.j1 k1 a0 t103 true x7_1 t106)) = some r := by rw [if_pos rfl] at H; exact H
                        clear H
                        have H := H1
                        clear H1
                        replace H := Option.bind_eq_some_iff.mp H
                        obtain ⟨t106, A180, H⟩ := H
                        replace H : (spec_PlainEnd.j1 k1 a0 t103 true x7_1 t106) = some r := H
                        have A18 := Aside0.mk A180
                        clear A180
                        have H' := Aside0.mk H
                        clear H
                        have p11 : 0 ≤ (x7_1 : Int) := of_decide_eq_true (by first | (with_reducible assumption) | assumption)
                        have q11 : x7_1 < (a0.size : Int) := of_decide_eq_true (by first | (with_reducible assumption) | assumption)
                        have hx11 := bt_at a0 x7_1
                        replace p11 := eq_true p11
                        replace q11 := eq_true q11
                        go_wp2_with (first | (go_at_call 51; (with_reducible refine (spec_l03White.calls a0 (wrap64 (x7_1 - 1)) false _ A14.out).mono ?_); rintro e w' ⟨rfl, ⟨nd, rfl⟩⟩; have p17 : 0 ≤ (x7_1 : Int) := of_decide_eq_true (by first | (with_reducible assumption) | assumption); have q17 : x7_1 < (a0.size : Int) := of_decide_eq_true (by first | (with_reducible assumption) | assumption); have hx17 := bt_at a0 x7_1; replace p17 := eq_true p17; replace q17 := eq_true q17) | (go_at_call 46; (with_reducible refine (spec_l04Flow.calls (bt a0 x7_1) t106 _ A18.out).mono ?_); rintro e w' ⟨rfl, ⟨nd, rfl⟩⟩))
                        go_meet
                        case rel => exact ⟨_, (t106), (by first | rfl | (simp; done) | (simp [*]; done)), H', ⟨by have := HK1.out; first | omega | exact Nat.le_refl _⟩, by repeat (first | exact Drawn0.refl _ | apply Drawn0.step)⟩
                      · replace c16 := Bool.eq_false_iff.mpr c16
                        subst c16
                        have H1 : (spec_PlainEnd.j1 k1 a0 t103 false x7_1 false) = some r := by rw [if_neg (show ¬ (false = true) by decide)] at H; exact H
                        clear H
                        have H := H1
                        clear H1
                        have H' := Aside0.mk H
                        clear H
                        have p11 : 0 ≤ (x7_1 : Int) := of_decide_eq_true (by first | (with_reducible assumption) | assumption)
                        have q11 : x7_1 < (a0.size : Int) := of_decide_eq_true (by first | (with_reducible assumption) | assumption)
                        have hx11 := bt_at a0 x7_1
                        replace p11 := eq_true p11
                        replace q11 := eq_true q11
                        go_wp2_with (first | (go_at_call 51; (with_reducible refine (spec_l03White.calls a0 (wrap64 (x7_1 - 1)) false _ A14.out).mono ?_); rintro e w' ⟨rfl, ⟨nd, rfl⟩⟩))
                        go_meet
                        case rel => exact ⟨_, (false), (by first | rfl | (simp; done) | (simp [*]; done)), H', ⟨by have := HK1.out; first | omega | exact Nat.le_refl _⟩, by repeat (first | exact Drawn0.refl _ | apply Drawn0.step)⟩
                  · rw [if_neg c13] at H
                    have c13b0 : decide (t103 < x7_1) = false := decide_eq_false c13
                    clear c13
                    by_cases c19 : a2 = true
                    · subst c19
                      have H1 : ((spec_l04Flow.f (bt a0 x7_1)).bind fun t107 => (spec_PlainEnd.j1 k1 a0 t103 true x7_1 t107)) = some r := by rw [if_pos rfl] at H; exact H
                      clear H
                      have H := H1
                      clear H1
                      replace H := Option.bind_eq_some_iff.mp H
                      obtain ⟨t107, A210, H⟩ := H
                      replace H : (spec_PlainEnd.j1 k1 a0 t103 true x7_1 t107) = some r := H
                      have A21 := Aside0.mk A210
                      clear A210
                      have H' := Aside0.mk H
                      clear H
                      have p11 : 0 ≤ (x7_1 : Int) := of_decide_eq_true (by first | (with_reducible assumption) | assumption)
                      have q11 : x7_1 < (a0.size : Int) := of_decide_eq_true (by first | (with_reducible assumption) | assumption)
                      have hx11 := bt_at a0 x7_1
                      replace p11 := eq_true p11
                      replace q11 := eq_true q11
                      have p20 : 0 ≤ (x7_1 : Int) := of_decide_eq_true (by first | (with_reducible assumption) | assumption)
                      have q20 : x7_1 < (a0.size : Int) := of_decide_eq_true (by first | (with_reducible assumption) | assumption)
                      have hx20 := bt_at a0 x7_1
                      replace p20 := eq_true p20
                      replace q20 := eq_true q20
                      go_wp2_with (first | (go_at_call 46; (with_reducible refine (spec_l04Flow.calls (bt a0 x7_1) t107 _ A21.out).mono ?_); rintro e w' ⟨rfl, ⟨nd, rfl⟩⟩))
                      go_meet
                      case rel => exact ⟨_, (t107), (by first | rfl | (simp; done) | (simp [*]; done)), H', ⟨by have := HK1.out; first | omega | exact Nat.le_refl _⟩, by repeat (first | exact Drawn0.refl _ | apply Drawn0.step)⟩
                    · replace c19 := Bool.eq_false_iff.mpr c19
                      subst c19
                      have H1 : (spec_PlainEnd.j1 k1 a0 t103 false x7_1 false) = some r := by rw [if_neg (show ¬ (false = true) by decide)] at H; exact H
                      clear H
                      have H := H1
                      clear H1
                      have H' := Aside0.mk H
                      clear H
                      have p11 : 0 ≤ (x7_1 : Int) := of_decide_eq_true (by first | (with_reducible assumption) | assumption)
                      have q11 : x7_1 < (a0.size : Int) := of_decide_eq_true (by first | (with_reducible assumption) | assumption)
                      have hx11 := bt_at a0 x7_1
                      replace p11 := eq_true p11
                      replace q11 := eq_true q11
                      go_wp2
                      go_meet
                      case rel => exact ⟨_, (false), (by first | rfl | (simp; done) | (simp [*]; done)), H', ⟨by have := HK1.out; first | omega | exact Nat.le_refl _⟩, by repeat (first | exact Drawn0.refl _ | apply Drawn0.step)⟩
                · rw [if_neg c12] at H
                  have c12b0 : ((bt a0 x7_1) == 35) = false := beq_eq_false_iff_ne.mpr c12
                  have c12b1 : ((bt a0 x7_1) != 35) = true := bne_iff_ne.mpr c12
                  by_cases c22 : a2 = true
                  · subst c22
                    have H1 : ((spec_l04Flow.f (bt a0 x7_1)).bind fun t108 => (spec_PlainEnd.j1 k1 a0 t103 true x7_1 t108)) = some r := by rw [if_pos rfl] at H; exact H
                    clear H
                    have H := H1
                    clear H1
                    replace H := Option.bind_eq_some_iff.mp H
                    obtain ⟨t108, A240, H⟩ := H
                    replace H : (spec_PlainEnd.j1 k1 a0 t103 true x7_1 t108) = some r := H
                    have A24 := Aside0.mk A240
                    clear A240
                    have H' := Aside0.mk H
                    clear H
                    have p11 : 0 ≤ (x7_1 : Int) := of_decide_eq_true (by first | (with_reducible assumption) | assumption)
                    have q11 : x7_1 < (a0.size : Int) := of_decide_eq_true (by first | (with_reducible assumption) | assumption)
                    have hx11 := bt_at a0 x7_1
                    replace p11 := eq_true p11
                    replace q11 := eq_true q11
                    have p23 : 0 ≤ (x7_1 : Int) := of_decide_eq_true (by first | (with_reducible assumption) | assumption)
                    have q23 : x7_1 < (a0.size : Int) := of_decide_eq_true (by first | (with_reducible assumption) | assumption)
                    have hx23 := bt_at a0 x7_1
                    replace p23 := eq_true p23
                    replace q23 := eq_true q23
                    go_wp2_with (first | (go_at_call 46; (with_reducible refine (spec_l04Flow.calls (bt a0 x7_1) t108 _ A24.out).mono ?_); rintro e w' ⟨rfl, ⟨nd, rfl⟩⟩))
                    go_meet
                    case rel => exact ⟨_, (t108), (by first | rfl | (simp; done) | (simp [*]; done)), H', ⟨by have := HK1.out; first | omega | exact Nat.le_refl _⟩, by repeat (first | exact Drawn0.refl _ | apply Drawn0.step)⟩
                  · replace c22 := Bool.eq_false_iff.mpr c22
                    subst c22
                    have H1 : (spec_PlainEnd.j1 k1 a0 t103 false x7_1 false) = some r := by rw [if_neg (show ¬ (false = true) by decide)] at H; exact H
                    clear H
                    have H := H1
                    clear H1
                    have H' := Aside0.mk H
                    clear H
                    have p11 : 0 ≤ (x7_1 : Int) := of_decide_eq_true (by first | (with_reducible assumption) | assumption)
                    have q11 : x7_1 < (a0.size : Int) := of_decide_eq_true (by first | (with_reducible assumption) | assumption)
                    have hx11 := bt_at a0 x7_1
                    replace p11 := eq_true p11
                    replace q11 := eq_true q11
                    go_wp2
                    go_meet
                    case rel => exact ⟨_, (false), (by first | rfl | (simp; done) | (simp [*]; done)), H', ⟨by have := HK1.out; first | omega | exact Nat.le_refl _⟩, by repeat (first | exact Drawn0.refl _ | apply Drawn0.step)⟩
              · rw [if_neg c10] at H
                exact absurd H (by simp)
            · rw [if_neg c9] at H
              exact absurd H (by simp)
          case rest =>
            clear HC8
            try clear c1
            try clear p1
            try clear q1
            try clear hx1
            try clear c2
            try clear p2
            try clear q2
            try clear hx2
            try clear c3
            try clear c4
            try clear p6
            try clear c7
            try clear c9
            try clear c9b0
            try clear c10
            try clear c10b0
            try clear p11
            try clear q11
            try clear hx11
            try clear c12
            try clear c12b0
            try clear c12b1
            try clear c13
            try clear c13b0
            try clear c15
            try clear c16
            try clear c17
            try clear p17
            try clear q17
            try clear hx17
            try clear c19
            try clear p20
            try clear q20
            try clear hx20
            try clear c22
            try clear p23
            try clear q23
            try clear hx23
            try clear p11
            try clear p17
            try clear p2
            try clear p20
            try clear p23
            try clear q11
            try clear q17
            try clear q20
            try clear q23
            obtain ⟨kq, x39_7, rfl, HA, HJ7, ⟨mc7, rfl⟩⟩ := hcut
            cases kq with
            | zero => exact absurd HA.out (by simp [spec_PlainEnd.j1])
            | succ kj7 =>
              have H := HA.out
              clear HA
              simp only [spec_PlainEnd.j1] at H
              by_cases c25 : x39_7 = true
              · subst c25
                have H1 : (spec_PlainEnd.j2 kj7 a0 t103 x7_1) = some r := by rw [if_pos rfl] at H; exact H
                clear H
                have H := H1
                clear H1
                have H' := Aside0.mk H
                clear H
                go_wp2
                go_meet
                case rel => exact ⟨_, (x7_1), (by first | rfl | (simp; done) | (simp [*]; done)), H', ⟨by have := HK1.out; have := HJ7.out; first | omega | exact Nat.le_refl _⟩, by repeat (first | exact Drawn0.refl _ | apply Drawn0.step)⟩
              · replace c25 := Bool.eq_false_iff.mpr c25
                subst c25
                have H1 : (if 0 ≤ x7_1 then (if x7_1 < (a0.size : Int) then (if (bt a0 x7_1) = 58 then ((spec_l03Gap.f a0 (wrap64 (x7_1 + 1))).bind fun t109 => (if t109 = true then (spec_PlainEnd.j2 kj7 a0 t103 x7_1) else (if a2 = true then (if 0 ≤ (wrap64 (x7_1 + 1)) then (if (wrap64 (x7_1 + 1)) < (a0.size : Int) then ((spec_l04Flow.f (bt a0 (wrap64 (x7_1 + 1)))).bind fun t110 => (if t110 = true then (spec_PlainEnd.j2 kj7 a0 t103 x7_1) else (spec_PlainEnd.l0 kj7 a0 t103 a2 (wrap64 (x7_1 + 1))))) else (none)) else (none)) else (spec_PlainEnd.l0 kj7 a0 t103 a2 (wrap64 (x7_1 + 1)))))) else (spec_PlainEnd.l0 kj7 a0 t103 a2 (wrap64 (x7_1 + 1)))) else (none)) else (none)) = some r := by rw [if_neg (show ¬ (false = true) by decide)] at H; exact H
                clear H
                have H := H1
                clear H1
                by_cases c26 : 0 ≤ x7_1
                · rw [if_pos c26] at H
                  have c26b0 : decide (0 ≤ x7_1) = true := decide_eq_true c26
                  clear c26
                  by_cases c27 : x7_1 < (a0.size : Int)
                  · rw [if_pos c27] at H
                    have c27b0 : decide (x7_1 < (a0.size : Int)) = true := decide_eq_true c27
                    clear c27
                    by_cases c29 : (bt a0 x7_1) = 58
                    · rw [if_pos c29] at H
                      have c29b0 : ((bt a0 x7_1) == 58) = true := beq_iff_eq.mpr c29
                      have c29b1 : ((bt a0 x7_1) != 58) = false := bne_eq_false_iff_eq.mpr c29
                      clear c29
                      replace H := Option.bind_eq_some_iff.mp H
                      obtain ⟨t109, A300, H⟩ := H
                      replace H : (if t109 = true then (spec_PlainEnd.j2 kj7 a0 t103 x7_1) else (if a2 = true then (if 0 ≤ (wrap64 (x7_1 + 1)) then (if (wrap64 (x7_1 + 1)) < (a0.size : Int) then ((spec_l04Flow.f (bt a0 (wrap64 (x7_1 + 1)))).bind fun t110 => (if t110 = true then (spec_PlainEnd.j2 kj7 a0 t103 x7_1) else (spec_PlainEnd.l0 kj7 a0 t103 a2 (wrap64 (x7_1 + 1))))) else (none)) else (none)) else (spec_PlainEnd.l0 kj7 a0 t103 a2 (wrap64 (x7_1 + 1))))) = some r := H
                      have A30 := Aside0.mk A300
                      clear A300
                      by_cases c31 : t109 = true
                      · subst c31
                        have H1 : (spec_PlainEnd.j2 kj7 a0 t103 x7_1) = some r := by rw [if_pos rfl] at H; exact H
                        clear H
                        have H := H1
                        clear H1
                        have H' := Aside0.mk H
                        clear H
                        have p28 : 0 ≤ (x7_1 : Int) := of_decide_eq_true (by first | (with_reducible assumption) | assumption)
                        have q28 : x7_1 < (a0.size : Int) := of_decide_eq_true (by first | (with_reducible assumption) | assumption)
                        have hx28 := bt_at a0 x7_1
                        replace p28 := eq_true p28
                        replace q28 := eq_true q28
                        go_wp2_with (first | (go_at_call 45; (with_reducible refine (spec_l03Gap.calls a0 (wrap64 (x7_1 + 1)) true _ A30.out).mono ?_); rintro e w' ⟨rfl, ⟨nd, rfl⟩⟩))
                        go_meet
                        case rel => exact ⟨_, (x7_1), (by first | rfl | (simp; done) | (simp [*]; done)), H', ⟨by have := HK1.out; have := HJ7.out; first | omega | exact Nat.le_refl _⟩, by repeat (first | exact Drawn0.refl _ | apply Drawn0.step)⟩
                      · replace c31 := Bool.eq_false_iff.mpr c31
                        subst c31
                        have H1 : (if a2 = true then (if 0 ≤ (wrap64 (x7_1 + 1)) then (if (wrap64 (x7_1 + 1)) < (a0.size : Int) then ((spec_l04Flow.f (bt a0 (wrap64 (x7_1 + 1)))).bind fun t110 => (if t110 = true then (spec_PlainEnd.j2 kj7 a0 t103 x7_1) else (spec_PlainEnd.l0 kj7 a0 t103 a2 (wrap64 (x7_1 + 1))))) else (none)) else (none)) else (spec_PlainEnd.l0 kj7 a0 t103 a2 (wrap64 (x7_1 + 1)))) = some r := by rw [if_neg (show ¬ (false = true) by decide)] at H; exact H
                        clear H
                        have H := H1
                        clear H1
                        by_cases c32 : a2 = true
                        · subst c32
                          have H1 : (if 0 ≤ (wrap64 (x7_1 + 1)) then (if (wrap64 (x7_1 + 1)) < (a0.size : Int) then ((spec_l04Flow.f (bt a0 (wrap64 (x7_1 + 1)))).bind fun t110 => (if t110 = true then (spec_PlainEnd.j2 kj7 a0 t103 x7_1) else (spec_PlainEnd.l0 kj7 a0 t103 true (wrap64 (x7_1 + 1))))) else (none)) else (none)) = some r := by rw [if_pos rfl] at H; exact H
                          clear H
                          have H := H1
                          clear H1
                          obtain ⟨ji33, hji33⟩ : ∃ j_ : Int, (wrap64 (x7_1 + 1)) = j_ := ⟨_, rfl⟩
                          replace H : (if 0 ≤ (ji33) then (if (ji33) < (a0.size : Int) then ((spec_l04Flow.f (bt a0 (ji33))).bind fun t110 => (if t110 = true then (spec_PlainEnd.j2 kj7 a0 t103 x7_1) else (spec_PlainEnd.l0 kj7 a0 t103 true ji33))) else (none)) else (none)) = some r := by first | (rw [hji33] at H; exact H) | (simp only [hji33] at H ⊢; exact H)
                          (try rw [hji33] at A30)
                          have hji33w : (IntKind.i64.wrap (x7_1 + 1)) = ji33 := (i64_w _).trans hji33
                          by_cases c34 : 0 ≤ (ji33)
                          · rw [if_pos c34] at H
                            have c34b0 : decide (0 ≤ (ji33)) = true := decide_eq_true c34
                            clear c34
                            by_cases c35 : (ji33) < (a0.size : Int)
                            · rw [if_pos c35] at H
                              have c35b0 : decide ((ji33) < (a0.size : Int)) = true := decide_eq_true c35
                              clear c35
                              replace H := Option.bind_eq_some_iff.mp H
                              obtain ⟨t110, A370, H⟩ := H
                              replace H : (if t110 = true then (spec_PlainEnd.j2 kj7 a0 t103 x7_1) else (spec_PlainEnd.l0 kj7 a0 t103 true ji33)) = some r := H
                              have A37 := Aside0.mk A370
                              clear A370
                              by_cases c38 : t110 = true
                              · subst c38
                                have H1 : (spec_PlainEnd.j2 kj7 a0 t103 x7_1) = some r := by rw [if_pos rfl] at H; exact H
                                clear H
                                have H := H1
                                clear H1
                                have H' := Aside0.mk H
                                clear H
                                have p28 : 0 ≤ (x7_1 : Int) := of_decide_eq_true (by first | (with_reducible assumption) | assumption)
                                have q28 : x7_1 < (a0.size : Int) := of_decide_eq_true (by first | (with_reducible assumption) | assumption)
                                have hx28 := bt_at a0 x7_1
                                replace p28 := eq_true p28
                                replace q28 := eq_true q28
                                go_wp2_with (first | (go_at_call 45; (with_reducible refine (spec_l03Gap.calls a0 ji33 false _ A30.out).mono ?_); rintro e w' ⟨rfl, ⟨nd, rfl⟩⟩; have p36 : 0 ≤ ((ji33) : Int) := of_decide_eq_true (by first | (with_reducible assumption) | assumption); have q36 : (ji33) < (a0.size : Int) := of_decide_eq_true (by first | (with_reducible assumption) | assumption); have hx36 := bt_at a0 (ji33); replace p36 := eq_true p36; replace q36 := eq_true q36) | (go_at_call 46; (with_reducible refine (spec_l04Flow.calls (bt a0 (ji33)) true _ A37.out).mono ?_); rintro e w' ⟨rfl, ⟨nd, rfl⟩⟩))
                                go_meet
                                case rel => exact ⟨_, (x7_1), (by first | rfl | (simp; done) | (simp [*]; done)), H', ⟨by have := HK1.out; have := HJ7.out; first | omega | exact Nat.le_refl _⟩, by repeat (first | exact Drawn0.refl _ | apply Drawn0.step)⟩
                              · replace c38 := Bool.eq_false_iff.mpr c38
                                subst c38
                                have H1 : (spec_PlainEnd.l0 kj7 a0 t103 true ji33) = some r := by rw [if_neg (show ¬ (false = true) by decide)] at H; exact H
                                clear H
                                have H := H1
                                clear H1
                                have H' := Aside0.mk H
                                clear H
                                have p28 : 0 ≤ (x7_1 : Int) := of_decide_eq_true (by first | (with_reducible assumption) | assumption)
                                have q28 : x7_1 < (a0.size : Int) := of_decide_eq_true (by first | (with_reducible assumption) | assumption)
                                have hx28 := bt_at a0 x7_1
                                replace p28 := eq_true p28
                                replace q28 := eq_true q28
                                go_wp2_with (first | (go_at_call 45; (with_reducible refine (spec_l03Gap.calls a0 ji33 false _ A30.out).mono ?_); rintro e w' ⟨rfl, ⟨nd, rfl⟩⟩; have p36 : 0 ≤ ((ji33) : Int) := of_decide_eq_true (by first | (with_reducible assumption) | assumption); have q36 : (ji33) < (a0.size : Int) := of_decide_eq_true (by first | (with_reducible assumption) | assumption); have hx36 := bt_at a0 (ji33); replace p36 := eq_true p36; replace q36 := eq_true q36) | (go_at_call 46; (with_reducible refine (spec_l04Flow.calls (bt a0 (ji33)) false _ A37.out).mono ?_); rintro e w' ⟨rfl, ⟨nd, rfl⟩⟩))
                                go_roundg kj7
                                case measure => have := HK1.out; have := HJ7.out; omega
                                case rel => exact ⟨(ji33), (by first | rfl | (simp; done) | (simp only [← hji33] <;> (first | rfl | simp)) | (simp [*]; done)), H', ⟨by have := HK1.out; have := HJ7.out; omega⟩, by repeat (first | exact Drawn0.refl _ | apply Drawn0.step)⟩
                            · rw [if_neg c35] at H
                              exact absurd H (by simp)
                          · rw [if_neg c34] at H
                            exact absurd H (by simp)
                        · replace c32 := Bool.eq_false_iff.mpr c32
                          subst c32
                          have H1 : (spec_PlainEnd.l0 kj7 a0 t103 false (wrap64 (x7_1 + 1))) = some r := by rw [if_neg (show ¬ (false = true) by decide)] at H; exact H
                          clear H
                          have H := H1
                          clear H1
                          have H' := Aside0.mk H
                          clear H
                          have p28 : 0 ≤ (x7_1 : Int) := of_decide_eq_true (by first | (with_reducible assumption) | assumption)
                          have q28 : x7_1 < (a0.size : Int) := of_decide_eq_true (by first | (with_reducible assumption) | assumption)
                          have hx28 := bt_at a0 x7_1
                          replace p28 := eq_true p28
                          replace q28 := eq_true q28
                          go_wp2_with (first | (go_at_call 45; (with_reducible refine (spec_l03Gap.calls a0 (wrap64 (x7_1 + 1)) false _ A30.out).mono ?_); rintro e w' ⟨rfl, ⟨nd, rfl⟩⟩))
                          go_roundg kj7
                          case measure => have := HK1.out; have := HJ7.out; omega
                          case rel => exact ⟨(wrap64 (x7_1 + 1)), (by first | rfl | (simp; done) | (simp [*]; done)), H', ⟨by have := HK1.out; have := HJ7.out; omega⟩, by repeat (first | exact Drawn0.refl _ | apply Drawn0.step)⟩
                    · rw [if_neg c29] at H
                      have c29b0 : ((bt a0 x7_1) == 58) = false := beq_eq_false_iff_ne.mpr c29
                      have c29b1 : ((bt a0 x7_1) != 58) = true := bne_iff_ne.mpr c29
                      have H' := Aside0.mk H
                      clear H
                      have p28 : 0 ≤ (x7_1 : Int) := of_decide_eq_true (by first | (with_reducible assumption) | assumption)
                      have q28 : x7_1 < (a0.size : Int) := of_decide_eq_true (by first | (with_reducible assumption) | assumption)
                      have hx28 := bt_at a0 x7_1
                      replace p28 := eq_true p28
                      replace q28 := eq_true q28
                      go_wp2
                      go_roundg kj7
                      case measure => have := HK1.out; have := HJ7.out; omega
                      case rel => exact ⟨(wrap64 (x7_1 + 1)), (by first | rfl | (simp; done) | (simp [*]; done)), H', ⟨by have := HK1.out; have := HJ7.out; omega⟩, by repeat (first | exact Drawn0.refl _ | apply Drawn0.step)⟩
                  · rw [if_neg c27] at H
                    exact absurd H (by simp)
                · rw [if_neg c26] at H
                  exact absurd H (by simp)
  case rest =>
    clear HC5
    try clear c1
    try clear p1
    try clear q1
    try clear hx1
    try clear c2
    try clear p2
    try clear q2
    try clear hx2
    try clear c3
    try clear p3
    try clear q3
    try clear hx3
    try clear c4
    try clear p6
    try clear c7
    try clear c9
    try clear c9b0
    try clear c10
    try clear c10b0
    try clear p11
    try clear q11
    try clear hx11
    try clear c12
    try clear c12b0
    try clear c12b1
    try clear c13
    try clear c13b0
    try clear c15
    try clear c16
    try clear c17
    try clear p17
    try clear q17
    try clear hx17
    try clear c19
    try clear p20
    try clear q20
    try clear hx20
    try clear c22
    try clear p23
    try clear q23
    try clear hx23
    try clear c25
    try clear c26
    try clear c26b0
    try clear c27
    try clear c27b0
    try clear p28
    try clear q28
    try clear hx28
    try clear c29
    try clear c29b0
    try clear c29b1
    try clear c31
    try clear c32
    try clear c34
    try clear c34b0
    try clear c35
    try clear c35b0
    try clear p36
    try clear q36
    try clear hx36
    try clear c37
    try clear c38
    try clear p1
    try clear p11
    try clear p17
    try clear p2
    try clear p20
    try clear p23
    try clear p28
    try clear p36
    try clear p6
    try clear q1
    try clear q11
    try clear q17
    try clear q2
    try clear q20
    try clear q23
    try clear q28
    try clear q36
    obtain ⟨kq, x7_4, rfl, HA, HJ4, ⟨mc4, rfl⟩⟩ := hcut
    cases kq with
    | zero => exact absurd HA.out (by simp [spec_PlainEnd.j2])
    | succ kj4 =>
      have H := HA.out
      clear HA
      simp only [spec_PlainEnd.j2] at H
      have H' := Aside0.mk H
      clear H
      go_wp2
      go_loopg [7] kj4 (fun kq v7 w' => ∃ (x7_2 : Int), v7 = .int .i64 x7_2 ∧ Aside0 (spec_PlainEnd.l1 kq a0 t103 x7_2 = some r) ∧ Aside0 (kq ≤ kj4) ∧ Drawn0 w w')
      case atStart => exact ⟨(x7_4), (by first | rfl | (simp; done) | (simp [*]; done)), H', ⟨Nat.le_refl _⟩, by repeat (first | exact Drawn0.refl _ | apply Drawn0.step)⟩
      case round =>
        clear H'
        try clear c1
        try clear p1
        try clear q1
        try clear hx1
        try clear c2
        try clear p2
        try clear q2
        try clear hx2
        try clear c3
        try clear p3
        try clear q3
        try clear hx3
        try clear c4
        try clear p6
        try clear c7
        try clear c9
        try clear c9b0
        try clear c10
        try clear c10b0
        try clear p11
        try clear q11
        try clear hx11
        try clear c12
        try clear c12b0
        try clear c12b1
        try clear c13
        try clear c13b0
        try clear c15
        try clear c16
        try clear c17
        try clear p17
        try clear q17
        try clear hx17
        try clear c19
        try clear p20
        try clear q20
        try clear hx20
        try clear c22
        try clear p23
        try clear q23
        try clear hx23
        try clear c25
        try clear c26
        try clear c26b0
        try clear c27
        try clear c27b0
        try clear p28
        try clear q28
        try clear hx28
        try clear c29
        try clear c29b0
        try clear c29b1
        try clear c31
        try clear c32
        try clear c34
        try clear c34b0
        try clear c35
        try clear c35b0
        try clear p36
        try clear q36
        try clear hx36
        try clear c37
        try clear c38
        try clear p1
        try clear p11
        try clear p17
        try clear p2
        try clear p20
        try clear p23
        try clear p28
        try clear p3
        try clear p36
        try clear p6
        try clear q1
        try clear q11
        try clear q17
        try clear q2
        try clear q20
        try clear q23
        try clear q28
        try clear q3
        try clear q36
        obtain ⟨x7_2, rfl, HA, HK2, ⟨m2, rfl⟩⟩ := hrel
        cases gk with
        | zero => exact absurd HA.out (by simp [spec_PlainEnd.l1])
        | succ k2 =>
          have H := HA.out
          clear HA
          simp only [spec_PlainEnd.l1] at H
          by_cases c39 : x7_2 > t103
          · rw [if_pos c39] at H
            have c39b0 : decide (t103 < x7_2) = true := decide_eq_true c39
            clear c39
            replace H := Option.bind_eq_some_iff.mp H
            obtain ⟨t111, A400, H⟩ := H
            replace H : (if t111 = true then (spec_PlainEnd.l1 k2 a0 t103 (wrap64 (x7_2 - 1))) else (some x7_2)) = some r := H
            have A40 := Aside0.mk A400
            clear A400
            by_cases c41 : t111 = true
            · subst c41
              have H1 : (spec_PlainEnd.l1 k2 a0 t103 (wrap64 (x7_2 - 1))) = some r := by rw [if_pos rfl] at H; exact H
              clear H
              have H := H1
              clear H1
              have H' := Aside0.mk H
              clear H
              go_wp2_with (first | (go_at_call 51; (with_reducible refine (spec_l03White.calls a0 (wrap64 (x7_2 - 1)) true _ A40.out).mono ?_); rintro e w' ⟨rfl, ⟨nd, rfl⟩⟩))
              go_roundg k2
              case measure => have := HJ4.out; have := HK2.out; omega
              case rel => exact ⟨(wrap64 (x7_2 - 1)), (by first | rfl | (simp; done) | (simp [*]; done)), H', ⟨by have := HJ4.out; have := HK2.out; omega⟩, by repeat (first | exact Drawn0.refl _ | apply Drawn0.step)⟩
            · replace c41 := Bool.eq_false_iff.mpr c41
              subst c41
              have H1 : (some x7_2) = some r := by rw [if_neg (show ¬ (false = true) by decide)] at H; exact H
              clear H
              have H := H1
              clear H1
              obtain rfl := Option.some.inj H
              go_wp2_with (first | (go_at_call 51; (with_reducible refine (spec_l03White.calls a0 (wrap64 (x7_2 - 1)) false _ A40.out).mono ?_); rintro e w' ⟨rfl, ⟨nd, rfl⟩⟩))
              go_ret
              exact ⟨by first | rfl | (simp; done) | (simp [*]; done), by repeat (first | exact Drawn0.refl _ | apply Drawn0.step)⟩
          · rw [if_neg c39] at H
            have c39b0 : decide (t103 < x7_2) = false := decide_eq_false c39
            clear c39
            obtain rfl := Option.some.inj H
            go_wp2
            go_ret
            exact ⟨by first | rfl | (simp; done) | (simp [*]; done), by repeat (first | exact Drawn0.refl _ | apply Drawn0.step)⟩

/-! ### impl_isBreak: function 40 -/
def impl_isBreak.f (a0 : Int) : Option (Bool) := if a0 = 10 then (some true) else (some (decide (a0 < 0)))
set_option maxHeartbeats 8000000 in
set_option maxRecDepth 100000 in
theorem impl_isBreak.calls (a0 : Int) (r : Bool) (w : World) (h : impl_isBreak.f a0 = some r) :
    Calls Try.prog 40 #[.int .i64 a0] w fun e w' => e = .returned (.bool r) ∧ Drawn0 w w' := by
  have H : (if a0 = 10 then (some true) else (some (decide (a0 < 0)))) = some r := h
  clear h
  by_cases c2 : a0 = 10
  · rw [if_pos c2] at H
    have c2b0 : (a0 == 10) = true := beq_iff_eq.mpr c2
    have c2b1 : (a0 != 10) = false := bne_eq_false_iff_eq.mpr c2
    clear c2
    obtain rfl := Option.some.inj H
    go_enter Try.func40, Try.ntmps40
    go_wp2
    go_ret
    exact ⟨by first | rfl | (simp; done) | (simp [*]; done), by repeat (first | exact Drawn0.refl _ | apply Drawn0.step)⟩
  · rw [if_neg c2] at H
    have c2b0 : (a0 == 10) = false := beq_eq_false_iff_ne.mpr c2
    have c2b1 : (a0 != 10) = true := bne_iff_ne.mpr c2
    obtain rfl := Option.some.inj H
    go_enter Try.func40, Try.ntmps40
    go_wp2
    go_ret
    exact ⟨by first | rfl | (simp; done) | (simp [*]; done), by repeat (first | exact Drawn0.refl _ | apply Drawn0.step)⟩

/-! ### impl_spot: function 47 -/
def impl_spot.f (a0 : ByteArray) (a1 : Int) : Option (Int) := some (mn (mx a1 0) (a0.size : Int))
set_option maxHeartbeats 8000000 in
set_option maxRecDepth 100000 in
theorem impl_spot.calls (a0 : ByteArray) (a1 : Int) (r : Int) (w : World) (h : impl_spot.f a0 a1 = some r) :
    Calls Try.prog 47 #[.string a0, .int .i64 a1] w fun e w' => e = .returned (.int .i64 r) ∧ Below w.heap.size w w' := by
  have HB := Aside0.mk (Below.refl w.heap.size w)
  have H : (some (mn (mx a1 0) (a0.size : Int))) = some r := h
  clear h
  obtain ⟨ji3, hji3⟩ : ∃ j_ : Int, (mx a1 0) = j_ := ⟨_, rfl⟩
  replace H : (some (mn (ji3) (a0.size : Int))) = some r := by first | (rw [hji3] at H; exact H) | (simp only [hji3] at H ⊢; exact H)
  (try (have hji3l : 0 ≤ ji3 := by (rw [← hji3]; unfold mx; (repeat' split) <;> omega)))
  (try (have hji3m : 0 ≤ ji3 := by omega))
  have hji3_ : (if a1 < 0 then 0 else a1) = ji3 := hji3
  obtain ⟨ji4, hji4⟩ : ∃ j_ : Int, (mn (ji3) (a0.size : Int)) = j_ := ⟨_, rfl⟩
  replace H : (some ji4) = some r := by first | (rw [hji4] at H; exact H) | (simp only [hji4] at H ⊢; exact H)
  have hji4_ : (if (a0.size : Int) < (ji3) then (a0.size : Int) else (ji3)) = ji4 := hji4
  obtain rfl := Option.some.inj H
  go_enter Try.func47, Try.ntmps47
  go_wp2
  go_ret
  exact ⟨by first | rfl | (simp [errW_none, errW_some] <;> rfl) | (simp only [← hji3, ← hji4]; first | rfl | (simp [errW_none, errW_some] <;> rfl)) | (simp [*, errW_none, errW_some] <;> rfl), by repeat (first | (with_reducible first | exact HB.out | apply below_alloc | apply pw_below_drewN | apply below_drew1) | exact HB.out)⟩

/-! ### impl_byteAt: function 41 -/
def impl_byteAt.f (a0 : ByteArray) (a1 : Int) : Option (Int) := (impl_spot.f a0 a1).bind fun t112 => (if t112 = (a0.size : Int) then (some (-1)) else (if 0 ≤ t112 then (if t112 < (a0.size : Int) then (some (wrap64 (bt a0 t112))) else (none)) else (none)))
set_option maxHeartbeats 8000000 in
set_option maxRecDepth 100000 in
theorem impl_byteAt.calls (a0 : ByteArray) (a1 : Int) (r : Int) (w : World) (h : impl_byteAt.f a0 a1 = some r) :
    Calls Try.prog 41 #[.string a0, .int .i64 a1] w fun e w' => e = .returned (.int .i64 r) ∧ Below w.heap.size w w' := by
  have HB := Aside0.mk (Below.refl w.heap.size w)
  have H : ((impl_spot.f a0 a1).bind fun t112 => (if t112 = (a0.size : Int) then (some (-1)) else (if 0 ≤ t112 then (if t112 < (a0.size : Int) then (some (wrap64 (bt a0 t112))) else (none)) else (none)))) = some r := h
  clear h
  replace H := Option.bind_eq_some_iff.mp H
  obtain ⟨t112, A30, H⟩ := H
  replace H : (if t112 = (a0.size : Int) then (some (-1)) else (if 0 ≤ t112 then (if t112 < (a0.size : Int) then (some (wrap64 (bt a0 t112))) else (none)) else (none))) = some r := H
  have A3 := Aside0.mk A30
  clear A30
  by_cases c4 : t112 = (a0.size : Int)
  · rw [if_pos c4] at H
    have c4b0 : (t112 == (a0.size : Int)) = true := beq_iff_eq.mpr c4
    have c4b1 : (t112 != (a0.size : Int)) = false := bne_eq_false_iff_eq.mpr c4
    clear c4
    obtain rfl := Option.some.inj H
    go_enter Try.func41, Try.ntmps41
    go_wp2_with (first | ((with_reducible refine gate_callee (f := 47) rfl ?_); refine goesL_ (some 7) rfl rfl Try.func47 (by kernel_rfl) rfl #[.string a0, .int .i64 a1] rfl (by (try simp only [List.map_toArray, List.map_cons, List.map_nil]); first | done | rfl | (simp only [List.length_drop, List.length_take]; rfl)) ?_; (with_reducible refine (impl_spot.calls a0 a1 t112 _ A3.out).mono ?_); rintro e w5 ⟨rfl, hb⟩; refine ⟨_, rfl, ?_⟩; have n0_ := Aside0.mk (below_step (by repeat (first | (with_reducible first | exact HB.out | apply below_alloc | apply pw_below_drewN | apply below_drew1) | exact HB.out)) hb); clear HB; have HB := n0_; clear n0_; (try clear hb); (try clear hb2); (try clear hk); (try clear hi)))
    go_ret
    exact ⟨by first | rfl | (simp [errW_none, errW_some] <;> rfl) | (simp [*, errW_none, errW_some] <;> rfl), by repeat (first | (with_reducible first | exact HB.out | apply below_alloc | apply pw_below_drewN | apply below_drew1) | exact HB.out)⟩
  · rw [if_neg c4] at H
    have c4b0 : (t112 == (a0.size : Int)) = false := beq_eq_false_iff_ne.mpr c4
    have c4b1 : (t112 != (a0.size : Int)) = true := bne_iff_ne.mpr c4
    by_cases c6 : 0 ≤ t112
    · rw [if_pos c6] at H
      have c6b0 : decide (0 ≤ t112) = true := decide_eq_true c6
      clear c6
      by_cases c7 : t112 < (a0.size : Int)
      · rw [if_pos c7] at H
        have c7b0 : decide (t112 < (a0.size : Int)) = true := decide_eq_true c7
        clear c7
        obtain rfl := Option.some.inj H
        go_enter Try.func41, Try.ntmps41
        go_wp2_with (first | ((with_reducible refine gate_callee (f := 47) rfl ?_); refine goesL_ (some 7) rfl rfl Try.func47 (by kernel_rfl) rfl #[.string a0, .int .i64 a1] rfl (by (try simp only [List.map_toArray, List.map_cons, List.map_nil]); first | done | rfl | (simp only [List.length_drop, List.length_take]; rfl)) ?_; (with_reducible refine (impl_spot.calls a0 a1 t112 _ A3.out).mono ?_); rintro e w9 ⟨rfl, hb⟩; refine ⟨_, rfl, ?_⟩; have n0_ := Aside0.mk (below_step (by repeat (first | (with_reducible first | exact HB.out | apply below_alloc | apply pw_below_drewN | apply below_drew1) | exact HB.out)) hb); clear HB; have HB := n0_; clear n0_; (try clear hb); (try clear hb2); (try clear hk); (try clear hi); have p8 : 0 ≤ (t112 : Int) := of_decide_eq_true (by first | (with_reducible assumption) | assumption); have q8 : t112 < (a0.size : Int) := of_decide_eq_true (by first | (with_reducible assumption) | assumption); have hx8 := bt_at a0 t112; replace p8 := eq_true p8; replace q8 := eq_true q8))
        go_ret
        exact ⟨by first | rfl | (simp [errW_none, errW_some] <;> rfl) | (simp [*, errW_none, errW_some] <;> rfl), by repeat (first | (with_reducible first | exact HB.out | apply below_alloc | apply pw_below_drewN | apply below_drew1) | exact HB.out)⟩
      · rw [if_neg c7] at H
        exact absurd H (by simp)
    · rw [if_neg c6] at H
      exact absurd H (by simp)

end Go.Proofs.Ytnkbmfbmcpdcpaa.PFnExactPlainEnd
