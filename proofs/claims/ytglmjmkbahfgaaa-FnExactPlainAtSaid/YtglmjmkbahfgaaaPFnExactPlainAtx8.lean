-- Written by a program of this session, out of the translation.
import Derived.Test.YtglmjmkbahfgaaaPFnExactPlainAtx0
import Derived.Test.YtglmjmkbahfgaaaPFnExactPlainAtx6
namespace Go.Proofs.Ytglmjmkbahfgaaa.PFnExactPlainAt
open Go.RowKit Go.Proofs.YtglmjmkbahfgaaaW.PrintWords Go.Proofs.YtglmjmkbahfgaaaW.PrintLast Go.Proofs.YtglmjmkbahfgaaaW.PrintMore
attribute [local go_sem] max2_int min2_int max_two min_two max_three min_three max_four min_four   -- for this text's walks alone
set_option linter.unusedVariables false
set_option linter.unusedSimpArgs false

/-! ### impl_PlainEnd: function 67 -/
mutual
def impl_PlainEnd.j2 : Nat → ByteArray → Int → Int → Option (Int)
  | 0, _, _, _ => none
  | k + 1, x0, x1, x7 => impl_PlainEnd.l1 k x0 x1 x7
def impl_PlainEnd.l1 : Nat → ByteArray → Int → Int → Option (Int)
  | 0, _, _, _ => none
  | k + 1, x0, x1, x7 => if x7 > x1 then ((impl_byteAt.f x0 (wrap64 (x7 - 1))).bind fun t203 => ((impl_isWhite.f t203).bind fun t204 => (if t204 = true then (impl_PlainEnd.l1 k x0 x1 (wrap64 (x7 - 1))) else (some x7)))) else (some x7)
def impl_PlainEnd.l0 : Nat → ByteArray → Int → Bool → Int → Option (Int)
  | 0, _, _, _, _ => none
  | k + 1, x0, x1, x2, x7 => (impl_byteAt.f x0 x7).bind fun t189 => ((impl_isBreak.f t189).bind fun t190 => (if t190 = true then (impl_PlainEnd.j2 k x0 x1 x7) else ((impl_byteAt.f x0 x7).bind fun t191 => ((impl_gapAt.f x0 (wrap64 (x7 + 1))).bind fun t192 => (if t192 = true then (impl_PlainEnd.j1 k x0 x1 x2 x7 t191 true) else (if x2 = true then ((impl_byteAt.f x0 (wrap64 (x7 + 1))).bind fun t193 => ((impl_isFlow.f t193).bind fun t194 => (impl_PlainEnd.j1 k x0 x1 x2 x7 t191 t194))) else (impl_PlainEnd.j1 k x0 x1 x2 x7 t191 false)))))))
def impl_PlainEnd.j1 : Nat → ByteArray → Int → Bool → Int → Int → Bool → Option (Int)
  | 0, _, _, _, _, _, _ => none
  | k + 1, x0, x1, x2, x7, x8, x9 => if x8 = 35 then (if x7 > x1 then ((impl_byteAt.f x0 (wrap64 (x7 - 1))).bind fun t195 => ((impl_isWhite.f t195).bind fun t196 => (if t196 = true then (impl_PlainEnd.j2 k x0 x1 x7) else (if x8 = 58 then (if x9 = true then (impl_PlainEnd.j2 k x0 x1 x7) else (if x2 = true then ((impl_isFlow.f x8).bind fun t197 => (if t197 = true then (impl_PlainEnd.j2 k x0 x1 x7) else (impl_PlainEnd.l0 k x0 x1 x2 (wrap64 (x7 + 1))))) else (impl_PlainEnd.l0 k x0 x1 x2 (wrap64 (x7 + 1))))) else (if x2 = true then ((impl_isFlow.f x8).bind fun t198 => (if t198 = true then (impl_PlainEnd.j2 k x0 x1 x7) else (impl_PlainEnd.l0 k x0 x1 x2 (wrap64 (x7 + 1))))) else (impl_PlainEnd.l0 k x0 x1 x2 (wrap64 (x7 + 1)))))))) else (if x8 = 58 then (if x9 = true then (impl_PlainEnd.j2 k x0 x1 x7) else (if x2 = true then ((impl_isFlow.f x8).bind fun t199 => (if t199 = true then (impl_PlainEnd.j2 k x0 x1 x7) else (impl_PlainEnd.l0 k x0 x1 x2 (wrap64 (x7 + 1))))) else (impl_PlainEnd.l0 k x0 x1 x2 (wrap64 (x7 + 1))))) else (if x2 = true then ((impl_isFlow.f x8).bind fun t200 => (if t200 = true then (impl_PlainEnd.j2 k x0 x1 x7) else (impl_PlainEnd.l0 k x0 x1 x2 (wrap64 (x7 + 1))))) else (impl_PlainEnd.l0 k x0 x1 x2 (wrap64 (x7 + 1)))))) else (if x8 = 58 then (if x9 = true then (impl_PlainEnd.j2 k x0 x1 x7) else (if x2 = true then ((impl_isFlow.f x8).bind fun t201 => (if t201 = true then (impl_PlainEnd.j2 k x0 x1 x7) else (impl_PlainEnd.l0 k x0 x1 x2 (wrap64 (x7 + 1))))) else (impl_PlainEnd.l0 k x0 x1 x2 (wrap64 (x7 + 1))))) else (if x2 = true then ((impl_isFlow.f x8).bind fun t202 => (if t202 = true then (impl_PlainEnd.j2 k x0 x1 x7) else (impl_PlainEnd.l0 k x0 x1 x2 (wrap64 (x7 + 1))))) else (impl_PlainEnd.l0 k x0 x1 x2 (wrap64 (x7 + 1)))))
end
def impl_PlainEnd.f (k : Nat) (a0 : ByteArray) (a1 : Int) (a2 : Bool) : Option (Int) := (impl_spot.f a0 a1).bind fun t188 => (impl_PlainEnd.l0 k a0 t188 a2 t188)
theorem impl_PlainEnd.mono_l : ∀ k, (∀ y0 y1 y2, LeO (impl_PlainEnd.j2 k y0 y1 y2) (impl_PlainEnd.j2 (k + 1) y0 y1 y2)) ∧ (∀ y0 y1 y2, LeO (impl_PlainEnd.l1 k y0 y1 y2) (impl_PlainEnd.l1 (k + 1) y0 y1 y2)) ∧ (∀ y0 y1 y2 y3, LeO (impl_PlainEnd.l0 k y0 y1 y2 y3) (impl_PlainEnd.l0 (k + 1) y0 y1 y2 y3)) ∧ (∀ y0 y1 y2 y3 y4 y5, LeO (impl_PlainEnd.j1 k y0 y1 y2 y3 y4 y5) (impl_PlainEnd.j1 (k + 1) y0 y1 y2 y3 y4 y5))
  | 0 => ⟨fun _ _ _ r h => by simp [impl_PlainEnd.j2] at h, fun _ _ _ r h => by simp [impl_PlainEnd.l1] at h, fun _ _ _ _ r h => by simp [impl_PlainEnd.l0] at h, fun _ _ _ _ _ _ r h => by simp [impl_PlainEnd.j1] at h⟩
  | k + 1 => by
    obtain ⟨ih0, ih1, ih2, ih3⟩ := impl_PlainEnd.mono_l k
    refine ⟨?_, ?_, ?_, ?_⟩
    · intro y0 y1 y2
      unfold impl_PlainEnd.j2
      repeat' first
      | (with_reducible exact ih0 _ _ _)
      | (with_reducible exact ih1 _ _ _)
      | (with_reducible exact ih2 _ _ _ _)
      | (with_reducible exact ih3 _ _ _ _ _ _)
      | (with_reducible exact LeO.refl _)
      | (with_reducible exact LeO.none _)
      | (with_reducible refine LeO.ite ?_ ?_)
      | (with_reducible refine LeO.bind ?_ (fun _ => ?_))
      | exact ih0 _ _ _
      | exact ih1 _ _ _
      | exact ih2 _ _ _ _
      | exact ih3 _ _ _ _ _ _
      | exact LeO.none _
      | refine LeO.ite ?_ ?_
      | refine LeO.bind ?_ (fun _ => ?_)
    · intro y0 y1 y2
      unfold impl_PlainEnd.l1
      repeat' first
      | (with_reducible exact ih0 _ _ _)
      | (with_reducible exact ih1 _ _ _)
      | (with_reducible exact ih2 _ _ _ _)
      | (with_reducible exact ih3 _ _ _ _ _ _)
      | (with_reducible exact LeO.refl _)
      | (with_reducible exact LeO.none _)
      | (with_reducible refine LeO.ite ?_ ?_)
      | (with_reducible refine LeO.bind ?_ (fun _ => ?_))
      | exact ih0 _ _ _
      | exact ih1 _ _ _
      | exact ih2 _ _ _ _
      | exact ih3 _ _ _ _ _ _
      | exact LeO.none _
      | refine LeO.ite ?_ ?_
      | refine LeO.bind ?_ (fun _ => ?_)
    · intro y0 y1 y2 y3
      unfold impl_PlainEnd.l0
      repeat' first
      | (with_reducible exact ih0 _ _ _)
      | (with_reducible exact ih1 _ _ _)
      | (with_reducible exact ih2 _ _ _ _)
      | (with_reducible exact ih3 _ _ _ _ _ _)
      | (with_reducible exact LeO.refl _)
      | (with_reducible exact LeO.none _)
      | (with_reducible refine LeO.ite ?_ ?_)
      | (with_reducible refine LeO.bind ?_ (fun _ => ?_))
      | exact ih0 _ _ _
      | exact ih1 _ _ _
      | exact ih2 _ _ _ _
      | exact ih3 _ _ _ _ _ _
      | exact LeO.none _
      | refine LeO.ite ?_ ?_
      | refine LeO.bind ?_ (fun _ => ?_)
    · intro y0 y1 y2 y3 y4 y5
      unfold impl_PlainEnd.j1
      repeat' first
      | (with_reducible exact ih0 _ _ _)
      | (with_reducible exact ih1 _ _ _)
      | (with_reducible exact ih2 _ _ _ _)
      | (with_reducible exact ih3 _ _ _ _ _ _)
      | (with_reducible exact LeO.refl _)
      | (with_reducible exact LeO.none _)
      | (with_reducible refine LeO.ite ?_ ?_)
      | (with_reducible refine LeO.bind ?_ (fun _ => ?_))
      | exact ih0 _ _ _
      | exact ih1 _ _ _
      | exact ih2 _ _ _ _
      | exact ih3 _ _ _ _ _ _
      | exact LeO.none _
      | refine LeO.ite ?_ ?_
      | refine LeO.bind ?_ (fun _ => ?_)
theorem impl_PlainEnd.mono : ∀ a0 a1 a2 k, LeO (impl_PlainEnd.f k a0 a1 a2) (impl_PlainEnd.f (k + 1) a0 a1 a2) := by
  intro a0 a1 a2 k
  obtain ⟨ih0, ih1, ih2, ih3⟩ := impl_PlainEnd.mono_l k
  unfold impl_PlainEnd.f
  repeat' first
      | (with_reducible exact ih0 _ _ _)
      | (with_reducible exact ih1 _ _ _)
      | (with_reducible exact ih2 _ _ _ _)
      | (with_reducible exact ih3 _ _ _ _ _ _)
      | (with_reducible exact LeO.refl _)
      | (with_reducible exact LeO.none _)
      | (with_reducible refine LeO.ite ?_ ?_)
      | (with_reducible refine LeO.bind ?_ (fun _ => ?_))
      | exact ih0 _ _ _
      | exact ih1 _ _ _
      | exact ih2 _ _ _ _
      | exact ih3 _ _ _ _ _ _
      | exact LeO.none _
      | refine LeO.ite ?_ ?_
      | refine LeO.bind ?_ (fun _ => ?_)
set_option maxHeartbeats 8000000 in
set_option maxRecDepth 100000 in
theorem impl_PlainEnd.calls (k : Nat) (a0 : ByteArray) (a1 : Int) (a2 : Bool) (r : Int) (w : World) (h : impl_PlainEnd.f k a0 a1 a2 = some r) :
    Calls Try.prog 67 #[.string a0, .int .i64 a1, .bool a2] w fun e w' => e = .returned (.int .i64 r) ∧ Below w.heap.size w w' := by
  have HB := Aside0.mk (Below.refl w.heap.size w)
  have H : ((impl_spot.f a0 a1).bind fun t188 => (impl_PlainEnd.l0 k a0 t188 a2 t188)) = some r := h
  clear h
  replace H := Option.bind_eq_some_iff.mp H
  obtain ⟨t188, A40, H⟩ := H
  replace H : (impl_PlainEnd.l0 k a0 t188 a2 t188) = some r := H
  have A4 := Aside0.mk A40
  clear A40
  have HC5 := Aside0.mk H
  clear H
  go_enter Try.func67, Try.ntmps67
  go_upto_block 0 with (first | ((with_reducible refine gate_callee (f := 65) rfl ?_); refine goesL_ (some 12) rfl rfl Try.func65 (by kernel_rfl) rfl #[.string a0, .int .i64 a1] rfl (by (try simp only [List.map_toArray, List.map_cons, List.map_nil]); first | done | rfl | (simp only [List.length_drop, List.length_take]; rfl)) ?_; (with_reducible refine (impl_spot.calls a0 a1 t188 _ A4.out).mono ?_); rintro e w6 ⟨rfl, hb⟩; refine ⟨_, rfl, ?_⟩; have n0_ := Aside0.mk (below_step (by repeat (first | (with_reducible first | exact HB.out | apply below_alloc | apply pw_below_drewN | apply below_drew1) | exact HB.out)) hb); clear HB; have HB := n0_; clear n0_; (try clear hb); (try clear hb2); (try clear hk); (try clear hi)))
  (try simp only [Act.put, List.setIfInBounds_toArray, List.set_cons_zero, List.set_cons_succ])
  go_cut [7] (fun v7 wc => ∃ (kq : Nat) (x7_4 : Int), v7 = .int .i64 x7_4 ∧ Aside0 (impl_PlainEnd.j2 kq a0 t188 x7_4 = some r) ∧ Aside0 (kq ≤ k) ∧ Aside0 (Below w.heap.size w wc))
  case first =>
    have H := HC5.out
    clear HC5
    have H' := Aside0.mk H
    clear H
    go_wp2
    go_loopg [7] k (fun kq v7 w' => ∃ (x7_1 : Int), v7 = .int .i64 x7_1 ∧ Aside0 (impl_PlainEnd.l0 kq a0 t188 a2 x7_1 = some r) ∧ Aside0 (kq ≤ k) ∧ Aside0 (Below w.heap.size w w'))
    case atStart => exact ⟨(t188), (by first | rfl | (simp; done) | (simp [*]; done)), H', ⟨Nat.le_refl _⟩, ⟨by repeat (first | (with_reducible first | exact HB.out | apply below_alloc | apply pw_below_drewN | apply below_drew1) | exact HB.out)⟩⟩
    case round =>
      clear H'
      try clear p2
      try clear c6
      obtain ⟨x7_1, rfl, HA, HK1, HB⟩ := hrel
      cases gk with
      | zero => exact absurd HA.out (by simp [impl_PlainEnd.l0])
      | succ k1 =>
        have H := HA.out
        clear HA
        simp only [impl_PlainEnd.l0] at H
        replace H := Option.bind_eq_some_iff.mp H
        obtain ⟨t189, A70, H⟩ := H
        replace H : ((impl_isBreak.f t189).bind fun t190 => (if t190 = true then (impl_PlainEnd.j2 k1 a0 t188 x7_1) else ((impl_byteAt.f a0 x7_1).bind fun t191 => ((impl_gapAt.f a0 (wrap64 (x7_1 + 1))).bind fun t192 => (if t192 = true then (impl_PlainEnd.j1 k1 a0 t188 a2 x7_1 t191 true) else (if a2 = true then ((impl_byteAt.f a0 (wrap64 (x7_1 + 1))).bind fun t193 => ((impl_isFlow.f t193).bind fun t194 => (impl_PlainEnd.j1 k1 a0 t188 a2 x7_1 t191 t194))) else (impl_PlainEnd.j1 k1 a0 t188 a2 x7_1 t191 false))))))) = some r := H
        have A7 := Aside0.mk A70
        clear A70
        replace H := Option.bind_eq_some_iff.mp H
        obtain ⟨t190, A80, H⟩ := H
        replace H : (if t190 = true then (impl_PlainEnd.j2 k1 a0 t188 x7_1) else ((impl_byteAt.f a0 x7_1).bind fun t191 => ((impl_gapAt.f a0 (wrap64 (x7_1 + 1))).bind fun t192 => (if t192 = true then (impl_PlainEnd.j1 k1 a0 t188 a2 x7_1 t191 true) else (if a2 = true then ((impl_byteAt.f a0 (wrap64 (x7_1 + 1))).bind fun t193 => ((impl_isFlow.f t193).bind fun t194 => (impl_PlainEnd.j1 k1 a0 t188 a2 x7_1 t191 t194))) else (impl_PlainEnd.j1 k1 a0 t188 a2 x7_1 t191 false)))))) = some r := H
        have A8 := Aside0.mk A80
        clear A80
        by_cases c9 : t190 = true
        · subst c9
          have H1 : (impl_PlainEnd.j2 k1 a0 t188 x7_1) = some r := by rw [if_pos rfl] at H; exact H
          clear H
          have H := H1
          clear H1
          have H' := Aside0.mk H
          clear H
          go_wp2_with (first | ((with_reducible refine gate_callee (f := 71) rfl ?_); refine goesL_ (some 16) rfl rfl Try.func71 (by kernel_rfl) rfl #[.string a0, .int .i64 x7_1] rfl (by (try simp only [List.map_toArray, List.map_cons, List.map_nil]); first | done | rfl | (simp only [List.length_drop, List.length_take]; rfl)) ?_; (with_reducible refine (impl_byteAt.calls a0 x7_1 t189 _ A7.out).mono ?_); rintro e w10 ⟨rfl, hb⟩; refine ⟨_, rfl, ?_⟩; have n0_ := Aside0.mk (below_step (by repeat (first | (with_reducible first | exact HB.out | apply below_alloc | apply pw_below_drewN | apply below_drew1) | exact HB.out)) hb); clear HB; have HB := n0_; clear n0_; (try clear hb); (try clear hb2); (try clear hk); (try clear hi)) | ((with_reducible refine gate_callee (f := 94) rfl ?_); refine goesL_ (some 17) rfl rfl Try.func94 (by kernel_rfl) rfl #[.int .i64 t189] rfl (by (try simp only [List.map_toArray, List.map_cons, List.map_nil]); first | done | rfl | (simp only [List.length_drop, List.length_take]; rfl)) ?_; (with_reducible refine (impl_isBreak.calls t189 true _ A8.out).mono ?_); rintro e w' ⟨rfl, ⟨nd, rfl⟩⟩; refine ⟨_, rfl, ?_⟩))
          go_meet
          case rel => exact ⟨_, (x7_1), (by first | rfl | (simp; done) | (simp [*]; done)), H', ⟨by have := HK1.out; first | omega | exact Nat.le_refl _⟩, ⟨by repeat (first | (with_reducible first | exact HB.out | apply below_alloc | apply pw_below_drewN | apply below_drew1) | exact HB.out)⟩⟩
        · replace c9 := Bool.eq_false_iff.mpr c9
          subst c9
          have H1 : ((impl_byteAt.f a0 x7_1).bind fun t191 => ((impl_gapAt.f a0 (wrap64 (x7_1 + 1))).bind fun t192 => (if t192 = true then (impl_PlainEnd.j1 k1 a0 t188 a2 x7_1 t191 true) else (if a2 = true then ((impl_byteAt.f a0 (wrap64 (x7_1 + 1))).bind fun t193 => ((impl_isFlow.f t193).bind fun t194 => (impl_PlainEnd.j1 k1 a0 t188 a2 x7_1 t191 t194))) else (impl_PlainEnd.j1 k1 a0 t188 a2 x7_1 t191 false))))) = some r := by rw [if_neg (show ¬ (false = true) by decide)] at H; exact H
          clear H
          have H := H1
          clear H1
          replace H := Option.bind_eq_some_iff.mp H
          obtain ⟨t191, A110, H⟩ := H
          replace H : ((impl_gapAt.f a0 (wrap64 (x7_1 + 1))).bind fun t192 => (if t192 = true then (impl_PlainEnd.j1 k1 a0 t188 a2 x7_1 t191 true) else (if a2 = true then ((impl_byteAt.f a0 (wrap64 (x7_1 + 1))).bind fun t193 => ((impl_isFlow.f t193).bind fun t194 => (impl_PlainEnd.j1 k1 a0 t188 a2 x7_1 t191 t194))) else (impl_PlainEnd.j1 k1 a0 t188 a2 x7_1 t191 false)))) = some r := H
          have A11 := Aside0.mk A110
          clear A110
          have HC12 := Aside0.mk H
          clear H
          go_upto_region 5 with (first | ((with_reducible refine gate_callee (f := 71) rfl ?_); refine goesL_ (some 16) rfl rfl Try.func71 (by kernel_rfl) rfl #[.string a0, .int .i64 x7_1] rfl (by (try simp only [List.map_toArray, List.map_cons, List.map_nil]); first | done | rfl | (simp only [List.length_drop, List.length_take]; rfl)) ?_; (with_reducible refine (impl_byteAt.calls a0 x7_1 t189 _ A7.out).mono ?_); rintro e w13 ⟨rfl, hb⟩; refine ⟨_, rfl, ?_⟩; have n0_ := Aside0.mk (below_step (by repeat (first | (with_reducible first | exact HB.out | apply below_alloc | apply pw_below_drewN | apply below_drew1) | exact HB.out)) hb); clear HB; have HB := n0_; clear n0_; (try clear hb); (try clear hb2); (try clear hk); (try clear hi)) | ((with_reducible refine gate_callee (f := 94) rfl ?_); refine goesL_ (some 17) rfl rfl Try.func94 (by kernel_rfl) rfl #[.int .i64 t189] rfl (by (try simp only [List.map_toArray, List.map_cons, List.map_nil]); first | done | rfl | (simp only [List.length_drop, List.length_take]; rfl)) ?_; (with_reducible refine (impl_isBreak.calls t189 false _ A8.out).mono ?_); rintro e w' ⟨rfl, ⟨nd, rfl⟩⟩; refine ⟨_, rfl, ?_⟩) | ((with_reducible refine gate_callee (f := 71) rfl ?_); refine goesL_ (some 21) rfl rfl Try.func71 (by kernel_rfl) rfl #[.string a0, .int .i64 x7_1] rfl (by (try simp only [List.map_toArray, List.map_cons, List.map_nil]); first | done | rfl | (simp only [List.length_drop, List.length_take]; rfl)) ?_; (with_reducible refine (impl_byteAt.calls a0 x7_1 t191 _ A11.out).mono ?_); rintro e w14 ⟨rfl, hb⟩; refine ⟨_, rfl, ?_⟩; have n0_ := Aside0.mk (below_step (by repeat (first | (with_reducible first | exact HB.out | apply below_alloc | apply pw_below_drewN | apply below_drew1) | exact HB.out)) hb); clear HB; have HB := n0_; clear n0_; (try clear hb); (try clear hb2); (try clear hk); (try clear hi)))
          (try simp only [Act.put, List.setIfInBounds_toArray, List.set_cons_zero, List.set_cons_succ])
          go_cut [9] (fun v9 wc => ∃ (kq : Nat) (x9_11 : Bool), v9 = .bool x9_11 ∧ Aside0 (impl_PlainEnd.j1 kq a0 t188 a2 x7_1 t191 x9_11 = some r) ∧ Aside0 (kq ≤ k1) ∧ Aside0 (Below w.heap.size w wc))
          case first =>
            have H := HC12.out
            clear HC12
            replace H := Option.bind_eq_some_iff.mp H
            obtain ⟨t192, A150, H⟩ := H
            replace H : (if t192 = true then (impl_PlainEnd.j1 k1 a0 t188 a2 x7_1 t191 true) else (if a2 = true then ((impl_byteAt.f a0 (wrap64 (x7_1 + 1))).bind fun t193 => ((impl_isFlow.f t193).bind fun t194 => (impl_PlainEnd.j1 k1 a0 t188 a2 x7_1 t191 t194))) else (impl_PlainEnd.j1 k1 a0 t188 a2 x7_1 t191 false))) = some r := H
            have A15 := Aside0.mk A150
            clear A150
            by_cases c16 : t192 = true
            · subst c16
              have H1 : (impl_PlainEnd.j1 k1 a0 t188 a2 x7_1 t191 true) = some r := by rw [if_pos rfl] at H; exact H
              clear H
              have H := H1
              clear H1
              have H' := Aside0.mk H
              clear H
              go_wp2_with (first | ((with_reducible refine gate_callee (f := 114) rfl ?_); refine goesL_ (some 25) rfl rfl Try.func114 (by kernel_rfl) rfl #[.string a0, .int .i64 (wrap64 (x7_1 + 1))] rfl (by (try simp only [List.map_toArray, List.map_cons, List.map_nil]); first | done | rfl | (simp only [List.length_drop, List.length_take]; rfl)) ?_; (with_reducible refine (impl_gapAt.calls a0 (wrap64 (x7_1 + 1)) true _ A15.out).mono ?_); rintro e w17 ⟨rfl, hb⟩; refine ⟨_, rfl, ?_⟩; have n0_ := Aside0.mk (below_step (by repeat (first | (with_reducible first | exact HB.out | apply below_alloc | apply pw_below_drewN | apply below_drew1) | exact HB.out)) hb); clear HB; have HB := n0_; clear n0_; (try clear hb); (try clear hb2); (try clear hk); (try clear hi)))
              go_meet
              case rel => exact ⟨_, (true), (by first | rfl | (simp; done) | (simp [*]; done)), H', ⟨by have := HK1.out; first | omega | exact Nat.le_refl _⟩, ⟨by repeat (first | (with_reducible first | exact HB.out | apply below_alloc | apply pw_below_drewN | apply below_drew1) | exact HB.out)⟩⟩
            · replace c16 := Bool.eq_false_iff.mpr c16
              subst c16
              have H1 : (if a2 = true then ((impl_byteAt.f a0 (wrap64 (x7_1 + 1))).bind fun t193 => ((impl_isFlow.f t193).bind fun t194 => (impl_PlainEnd.j1 k1 a0 t188 a2 x7_1 t191 t194))) else (impl_PlainEnd.j1 k1 a0 t188 a2 x7_1 t191 false)) = some r := by rw [if_neg (show ¬ (false = true) by decide)] at H; exact H
              clear H
              have H := H1
              clear H1
              by_cases c18 : a2 = true
              · subst c18
                have H1 : ((impl_byteAt.f a0 (wrap64 (x7_1 + 1))).bind fun t193 => ((impl_isFlow.f t193).bind fun t194 => (impl_PlainEnd.j1 k1 a0 t188 true x7_1 t191 t194))) = some r := by rw [if_pos rfl] at H; exact H
                clear H
                have H := H1
                clear H1
                replace H := Option.bind_eq_some_iff.mp H
                obtain ⟨t193, A190, H⟩ := H
                replace H : ((impl_isFlow.f t193).bind fun t194 => (impl_PlainEnd.j1 k1 a0 t188 true x7_1 t191 t194)) = some r := H
                have A19 := Aside0.mk A190
                clear A190
                replace H := Option.bind_eq_some_iff.mp H
                obtain ⟨t194, A200, H⟩ := H
                replace H : (impl_PlainEnd.j1 k1 a0 t188 true x7_1 t191 t194) = some r := H
                have A20 := Aside0.mk A200
                clear A200
                have H' := Aside0.mk H
                clear H
                go_wp2_with (first | ((with_reducible refine gate_callee (f := 114) rfl ?_); refine goesL_ (some 25) rfl rfl Try.func114 (by kernel_rfl) rfl #[.string a0, .int .i64 (wrap64 (x7_1 + 1))] rfl (by (try simp only [List.map_toArray, List.map_cons, List.map_nil]); first | done | rfl | (simp only [List.length_drop, List.length_take]; rfl)) ?_; (with_reducible refine (impl_gapAt.calls a0 (wrap64 (x7_1 + 1)) false _ A15.out).mono ?_); rintro e w21 ⟨rfl, hb⟩; refine ⟨_, rfl, ?_⟩; have n0_ := Aside0.mk (below_step (by repeat (first | (with_reducible first | exact HB.out | apply below_alloc | apply pw_below_drewN | apply below_drew1) | exact HB.out)) hb); clear HB; have HB := n0_; clear n0_; (try clear hb); (try clear hb2); (try clear hk); (try clear hi)) | (go_at_call 71; (with_reducible refine (impl_byteAt.calls a0 (wrap64 (x7_1 + 1)) t193 _ A19.out).mono ?_); rintro e w22 ⟨rfl, hb⟩; have n0_ := Aside0.mk (below_step (by repeat (first | (with_reducible first | exact HB.out | apply below_alloc | apply pw_below_drewN | apply below_drew1) | exact HB.out)) hb); clear HB; have HB := n0_; clear n0_; (try clear hb); (try clear hb2); (try clear hk); (try clear hi)) | (go_at_call 115; (with_reducible refine (impl_isFlow.calls t193 t194 _ A20.out).mono ?_); rintro e w' ⟨rfl, ⟨nd, rfl⟩⟩))
                go_meet
                case rel => exact ⟨_, (t194), (by first | rfl | (simp; done) | (simp [*]; done)), H', ⟨by have := HK1.out; first | omega | exact Nat.le_refl _⟩, ⟨by repeat (first | (with_reducible first | exact HB.out | apply below_alloc | apply pw_below_drewN | apply below_drew1) | exact HB.out)⟩⟩
              · replace c18 := Bool.eq_false_iff.mpr c18
                subst c18
                have H1 : (impl_PlainEnd.j1 k1 a0 t188 false x7_1 t191 false) = some r := by rw [if_neg (show ¬ (false = true) by decide)] at H; exact H
                clear H
                have H := H1
                clear H1
                have H' := Aside0.mk H
                clear H
                go_wp2_with (first | ((with_reducible refine gate_callee (f := 114) rfl ?_); refine goesL_ (some 25) rfl rfl Try.func114 (by kernel_rfl) rfl #[.string a0, .int .i64 (wrap64 (x7_1 + 1))] rfl (by (try simp only [List.map_toArray, List.map_cons, List.map_nil]); first | done | rfl | (simp only [List.length_drop, List.length_take]; rfl)) ?_; (with_reducible refine (impl_gapAt.calls a0 (wrap64 (x7_1 + 1)) false _ A15.out).mono ?_); rintro e w23 ⟨rfl, hb⟩; refine ⟨_, rfl, ?_⟩; have n0_ := Aside0.mk (below_step (by repeat (first | (with_reducible first | exact HB.out | apply below_alloc | apply pw_below_drewN | apply below_drew1) | exact HB.out)) hb); clear HB; have HB := n0_; clear n0_; (try clear hb); (try clear hb2); (try clear hk); (try clear hi)))
                go_meet
                case rel => exact ⟨_, (false), (by first | rfl | (simp; done) | (simp [*]; done)), H', ⟨by have := HK1.out; first | omega | exact Nat.le_refl _⟩, ⟨by repeat (first | (with_reducible first | exact HB.out | apply below_alloc | apply pw_below_drewN | apply below_drew1) | exact HB.out)⟩⟩
          case rest =>
            clear HC12
            try clear c1
            try clear p2
            try clear c6
            try clear p6
            try clear c7
            try clear c9
            try clear c11
            try clear c16
            try clear c18
            try clear p2
            obtain ⟨kq, x9_11, rfl, HA, HJ11, HB⟩ := hcut
            cases kq with
            | zero => exact absurd HA.out (by simp [impl_PlainEnd.j1])
            | succ kj11 =>
              have H := HA.out
              clear HA
              simp only [impl_PlainEnd.j1] at H
              by_cases c24 : t191 = 35
              · rw [if_pos c24] at H
                have c24b0 : (t191 == 35) = true := beq_iff_eq.mpr c24
                have c24b1 : (t191 != 35) = false := bne_eq_false_iff_eq.mpr c24
                clear c24
                by_cases c25 : x7_1 > t188
                · rw [if_pos c25] at H
                  have c25b0 : decide (t188 < x7_1) = true := decide_eq_true c25
                  clear c25
                  replace H := Option.bind_eq_some_iff.mp H
                  obtain ⟨t195, A260, H⟩ := H
                  replace H : ((impl_isWhite.f t195).bind fun t196 => (if t196 = true then (impl_PlainEnd.j2 kj11 a0 t188 x7_1) else (if t191 = 58 then (if x9_11 = true then (impl_PlainEnd.j2 kj11 a0 t188 x7_1) else (if a2 = true then ((impl_isFlow.f t191).bind fun t197 => (if t197 = true then (impl_PlainEnd.j2 kj11 a0 t188 x7_1) else (impl_PlainEnd.l0 kj11 a0 t188 a2 (wrap64 (x7_1 + 1))))) else (impl_PlainEnd.l0 kj11 a0 t188 a2 (wrap64 (x7_1 + 1))))) else (if a2 = true then ((impl_isFlow.f t191).bind fun t198 => (if t198 = true then (impl_PlainEnd.j2 kj11 a0 t188 x7_1) else (impl_PlainEnd.l0 kj11 a0 t188 a2 (wrap64 (x7_1 + 1))))) else (impl_PlainEnd.l0 kj11 a0 t188 a2 (wrap64 (x7_1 + 1))))))) = some r := H
                  have A26 := Aside0.mk A260
                  clear A260
                  replace H := Option.bind_eq_some_iff.mp H
                  obtain ⟨t196, A270, H⟩ := H
                  replace H : (if t196 = true then (impl_PlainEnd.j2 kj11 a0 t188 x7_1) else (if t191 = 58 then (if x9_11 = true then (impl_PlainEnd.j2 kj11 a0 t188 x7_1) else (if a2 = true then ((impl_isFlow.f t191).bind fun t197 => (if t197 = true then (impl_PlainEnd.j2 kj11 a0 t188 x7_1) else (impl_PlainEnd.l0 kj11 a0 t188 a2 (wrap64 (x7_1 + 1))))) else (impl_PlainEnd.l0 kj11 a0 t188 a2 (wrap64 (x7_1 + 1))))) else (if a2 = true then ((impl_isFlow.f t191).bind fun t198 => (if t198 = true then (impl_PlainEnd.j2 kj11 a0 t188 x7_1) else (impl_PlainEnd.l0 kj11 a0 t188 a2 (wrap64 (x7_1 + 1))))) else (impl_PlainEnd.l0 kj11 a0 t188 a2 (wrap64 (x7_1 + 1)))))) = some r := H
                  have A27 := Aside0.mk A270
                  clear A270
                  by_cases c28 : t196 = true
                  · subst c28
                    have H1 : (impl_PlainEnd.j2 kj11 a0 t188 x7_1) = some r := by rw [if_pos rfl] at H; exact H
                    clear H
                    have H := H1
                    clear H1
                    have H' := Aside0.mk H
                    clear H
                    go_wp2_with (first | (go_at_call 71; (with_reducible refine (impl_byteAt.calls a0 (wrap64 (x7_1 - 1)) t195 _ A26.out).mono ?_); rintro e w29 ⟨rfl, hb⟩; have n0_ := Aside0.mk (below_step (by repeat (first | (with_reducible first | exact HB.out | apply below_alloc | apply pw_below_drewN | apply below_drew1) | exact HB.out)) hb); clear HB; have HB := n0_; clear n0_; (try clear hb); (try clear hb2); (try clear hk); (try clear hi)) | (go_at_call 76; (with_reducible refine (impl_isWhite.calls t195 true _ A27.out).mono ?_); rintro e w' ⟨rfl, ⟨nd, rfl⟩⟩))
                    go_meet
                    case rel => exact ⟨_, (x7_1), (by first | rfl | (simp; done) | (simp [*]; done)), H', ⟨by have := HK1.out; have := HJ11.out; first | omega | exact Nat.le_refl _⟩, ⟨by repeat (first | (with_reducible first | exact HB.out | apply below_alloc | apply pw_below_drewN | apply below_drew1) | exact HB.out)⟩⟩
                  · replace c28 := Bool.eq_false_iff.mpr c28
                    subst c28
                    have H1 : (if t191 = 58 then (if x9_11 = true then (impl_PlainEnd.j2 kj11 a0 t188 x7_1) else (if a2 = true then ((impl_isFlow.f t191).bind fun t197 => (if t197 = true then (impl_PlainEnd.j2 kj11 a0 t188 x7_1) else (impl_PlainEnd.l0 kj11 a0 t188 a2 (wrap64 (x7_1 + 1))))) else (impl_PlainEnd.l0 kj11 a0 t188 a2 (wrap64 (x7_1 + 1))))) else (if a2 = true then ((impl_isFlow.f t191).bind fun t198 => (if t198 = true then (impl_PlainEnd.j2 kj11 a0 t188 x7_1) else (impl_PlainEnd.l0 kj11 a0 t188 a2 (wrap64 (x7_1 + 1))))) else (impl_PlainEnd.l0 kj11 a0 t188 a2 (wrap64 (x7_1 + 1))))) = some r := by rw [if_neg (show ¬ (false = true) by decide)] at H; exact H
                    clear H
                    have H := H1
                    clear H1
                    by_cases c30 : t191 = 58
                    · rw [if_pos c30] at H
                      have c30b0 : (t191 == 58) = true := beq_iff_eq.mpr c30
                      have c30b1 : (t191 != 58) = false := bne_eq_false_iff_eq.mpr c30
                      clear c30
                      by_cases c31 : x9_11 = true
                      · subst c31
                        have H1 : (impl_PlainEnd.j2 kj11 a0 t188 x7_1) = some r := by rw [if_pos rfl] at H; exact H
                        clear H
                        have H := H1
                        clear H1
                        have H' := Aside0.mk H
                        clear H
                        go_wp2_with (first | (go_at_call 71; (with_reducible refine (impl_byteAt.calls a0 (wrap64 (x7_1 - 1)) t195 _ A26.out).mono ?_); rintro e w32 ⟨rfl, hb⟩; have n0_ := Aside0.mk (below_step (by repeat (first | (with_reducible first | exact HB.out | apply below_alloc | apply pw_below_drewN | apply below_drew1) | exact HB.out)) hb); clear HB; have HB := n0_; clear n0_; (try clear hb); (try clear hb2); (try clear hk); (try clear hi)) | (go_at_call 76; (with_reducible refine (impl_isWhite.calls t195 false _ A27.out).mono ?_); rintro e w' ⟨rfl, ⟨nd, rfl⟩⟩))
                        go_meet
                        case rel => exact ⟨_, (x7_1), (by first | rfl | (simp; done) | (simp [*]; done)), H', ⟨by have := HK1.out; have := HJ11.out; first | omega | exact Nat.le_refl _⟩, ⟨by repeat (first | (with_reducible first | exact HB.out | apply below_alloc | apply pw_below_drewN | apply below_drew1) | exact HB.out)⟩⟩
                      · replace c31 := Bool.eq_false_iff.mpr c31
                        subst c31
                        have H1 : (if a2 = true then ((impl_isFlow.f t191).bind fun t197 => (if t197 = true then (impl_PlainEnd.j2 kj11 a0 t188 x7_1) else (impl_PlainEnd.l0 kj11 a0 t188 a2 (wrap64 (x7_1 + 1))))) else (impl_PlainEnd.l0 kj11 a0 t188 a2 (wrap64 (x7_1 + 1)))) = some r := by rw [if_neg (show ¬ (false = true) by decide)] at H; exact H
                        clear H
                        have H := H1
                        clear H1
                        by_cases c33 : a2 = true
                        · subst c33
                          have H1 : ((impl_isFlow.f t191).bind fun t197 => (if t197 = true then (impl_PlainEnd.j2 kj11 a0 t188 x7_1) else (impl_PlainEnd.l0 kj11 a0 t188 true (wrap64 (x7_1 + 1))))) = some r := by rw [if_pos rfl] at H; exact H
                          clear H
                          have H := H1
                          clear H1
                          replace H := Option.bind_eq_some_iff.mp H
                          obtain ⟨t197, A340, H⟩ := H
                          replace H : (if t197 = true then (impl_PlainEnd.j2 kj11 a0 t188 x7_1) else (impl_PlainEnd.l0 kj11 a0 t188 true (wrap64 (x7_1 + 1)))) = some r := H
                          have A34 := Aside0.mk A340
                          clear A340
                          by_cases c35 : t197 = true
                          · subst c35
                            have H1 : (impl_PlainEnd.j2 kj11 a0 t188 x7_1) = some r := by rw [if_pos rfl] at H; exact H
                            clear H
                            have H := H1
                            clear H1
                            have H' := Aside0.mk H
                            clear H
                            go_wp2_with (first | (go_at_call 71; (with_reducible refine (impl_byteAt.calls a0 (wrap64 (x7_1 - 1)) t195 _ A26.out).mono ?_); rintro e w36 ⟨rfl, hb⟩; have n0_ := Aside0.mk (below_step (by repeat (first | (with_reducible first | exact HB.out | apply below_alloc | apply pw_below_drewN | apply below_drew1) | exact HB.out)) hb); clear HB; have HB := n0_; clear n0_; (try clear hb); (try clear hb2); (try clear hk); (try clear hi)) | (go_at_call 76; (with_reducible refine (impl_isWhite.calls t195 false _ A27.out).mono ?_); rintro e w' ⟨rfl, ⟨nd, rfl⟩⟩) | (go_at_call 115; (with_reducible refine (impl_isFlow.calls t191 true _ A34.out).mono ?_); rintro e w' ⟨rfl, ⟨nd, rfl⟩⟩))
                            go_meet
                            case rel => exact ⟨_, (x7_1), (by first | rfl | (simp; done) | (simp [*]; done)), H', ⟨by have := HK1.out; have := HJ11.out; first | omega | exact Nat.le_refl _⟩, ⟨by repeat (first | (with_reducible first | exact HB.out | apply below_alloc | apply pw_below_drewN | apply below_drew1) | exact HB.out)⟩⟩
                          · replace c35 := Bool.eq_false_iff.mpr c35
                            subst c35
                            have H1 : (impl_PlainEnd.l0 kj11 a0 t188 true (wrap64 (x7_1 + 1))) = some r := by rw [if_neg (show ¬ (false = true) by decide)] at H; exact H
                            clear H
                            have H := H1
                            clear H1
                            have H' := Aside0.mk H
                            clear H
                            go_wp2_with (first | (go_at_call 71; (with_reducible refine (impl_byteAt.calls a0 (wrap64 (x7_1 - 1)) t195 _ A26.out).mono ?_); rintro e w37 ⟨rfl, hb⟩; have n0_ := Aside0.mk (below_step (by repeat (first | (with_reducible first | exact HB.out | apply below_alloc | apply pw_below_drewN | apply below_drew1) | exact HB.out)) hb); clear HB; have HB := n0_; clear n0_; (try clear hb); (try clear hb2); (try clear hk); (try clear hi)) | (go_at_call 76; (with_reducible refine (impl_isWhite.calls t195 false _ A27.out).mono ?_); rintro e w' ⟨rfl, ⟨nd, rfl⟩⟩) | (go_at_call 115; (with_reducible refine (impl_isFlow.calls t191 false _ A34.out).mono ?_); rintro e w' ⟨rfl, ⟨nd, rfl⟩⟩))
                            go_roundg kj11
                            case measure => have := HK1.out; have := HJ11.out; omega
                            case rel => exact ⟨(wrap64 (x7_1 + 1)), (by first | rfl | (simp; done) | (simp [*]; done)), H', ⟨by have := HK1.out; have := HJ11.out; omega⟩, ⟨by repeat (first | (with_reducible first | exact HB.out | apply below_alloc | apply pw_below_drewN | apply below_drew1) | exact HB.out)⟩⟩
                        · replace c33 := Bool.eq_false_iff.mpr c33
                          subst c33
                          have H1 : (impl_PlainEnd.l0 kj11 a0 t188 false (wrap64 (x7_1 + 1))) = some r := by rw [if_neg (show ¬ (false = true) by decide)] at H; exact H
                          clear H
                          have H := H1
                          clear H1
                          have H' := Aside0.mk H
                          clear H
                          go_wp2_with (first | (go_at_call 71; (with_reducible refine (impl_byteAt.calls a0 (wrap64 (x7_1 - 1)) t195 _ A26.out).mono ?_); rintro e w38 ⟨rfl, hb⟩; have n0_ := Aside0.mk (below_step (by repeat (first | (with_reducible first | exact HB.out | apply below_alloc | apply pw_below_drewN | apply below_drew1) | exact HB.out)) hb); clear HB; have HB := n0_; clear n0_; (try clear hb); (try clear hb2); (try clear hk); (try clear hi)) | (go_at_call 76; (with_reducible refine (impl_isWhite.calls t195 false _ A27.out).mono ?_); rintro e w' ⟨rfl, ⟨nd, rfl⟩⟩))
                          go_roundg kj11
                          case measure => have := HK1.out; have := HJ11.out; omega
                          case rel => exact ⟨(wrap64 (x7_1 + 1)), (by first | rfl | (simp; done) | (simp [*]; done)), H', ⟨by have := HK1.out; have := HJ11.out; omega⟩, ⟨by repeat (first | (with_reducible first | exact HB.out | apply below_alloc | apply pw_below_drewN | apply below_drew1) | exact HB.out)⟩⟩
                    · rw [if_neg c30] at H
                      have c30b0 : (t191 == 58) = false := beq_eq_false_iff_ne.mpr c30
                      have c30b1 : (t191 != 58) = true := bne_iff_ne.mpr c30
                      by_cases c39 : a2 = true
                      · subst c39
                        have H1 : ((impl_isFlow.f t191).bind fun t198 => (if t198 = true then (impl_PlainEnd.j2 kj11 a0 t188 x7_1) else (impl_PlainEnd.l0 kj11 a0 t188 true (wrap64 (x7_1 + 1))))) = some r := by rw [if_pos rfl] at H; exact H
                        clear H
                        have H := H1
                        clear H1
                        replace H := Option.bind_eq_some_iff.mp H
                        obtain ⟨t198, A400, H⟩ := H
                        replace H : (if t198 = true then (impl_PlainEnd.j2 kj11 a0 t188 x7_1) else (impl_PlainEnd.l0 kj11 a0 t188 true (wrap64 (x7_1 + 1)))) = some r := H
                        have A40 := Aside0.mk A400
                        clear A400
                        by_cases c41 : t198 = true
                        · subst c41
                          have H1 : (impl_PlainEnd.j2 kj11 a0 t188 x7_1) = some r := by rw [if_pos rfl] at H; exact H
                          clear H
                          have H := H1
                          clear H1
                          have H' := Aside0.mk H
                          clear H
                          go_wp2_with (first | (go_at_call 71; (with_reducible refine (impl_byteAt.calls a0 (wrap64 (x7_1 - 1)) t195 _ A26.out).mono ?_); rintro e w42 ⟨rfl, hb⟩; have n0_ := Aside0.mk (below_step (by repeat (first | (with_reducible first | exact HB.out | apply below_alloc | apply pw_below_drewN | apply below_drew1) | exact HB.out)) hb); clear HB; have HB := n0_; clear n0_; (try clear hb); (try clear hb2); (try clear hk); (try clear hi)) | (go_at_call 76; (with_reducible refine (impl_isWhite.calls t195 false _ A27.out).mono ?_); rintro e w' ⟨rfl, ⟨nd, rfl⟩⟩) | (go_at_call 115; (with_reducible refine (impl_isFlow.calls t191 true _ A40.out).mono ?_); rintro e w' ⟨rfl, ⟨nd, rfl⟩⟩))
                          go_meet
                          case rel => exact ⟨_, (x7_1), (by first | rfl | (simp; done) | (simp [*]; done)), H', ⟨by have := HK1.out; have := HJ11.out; first | omega | exact Nat.le_refl _⟩, ⟨by repeat (first | (with_reducible first | exact HB.out | apply below_alloc | apply pw_below_drewN | apply below_drew1) | exact HB.out)⟩⟩
                        · replace c41 := Bool.eq_false_iff.mpr c41
                          subst c41
                          have H1 : (impl_PlainEnd.l0 kj11 a0 t188 true (wrap64 (x7_1 + 1))) = some r := by rw [if_neg (show ¬ (false = true) by decide)] at H; exact H
                          clear H
                          have H := H1
                          clear H1
                          have H' := Aside0.mk H
                          clear H
                          go_wp2_with (first | (go_at_call 71; (with_reducible refine (impl_byteAt.calls a0 (wrap64 (x7_1 - 1)) t195 _ A26.out).mono ?_); rintro e w43 ⟨rfl, hb⟩; have n0_ := Aside0.mk (below_step (by repeat (first | (with_reducible first | exact HB.out | apply below_alloc | apply pw_below_drewN | apply below_drew1) | exact HB.out)) hb); clear HB; have HB := n0_; clear n0_; (try clear hb); (try clear hb2); (try clear hk); (try clear hi)) | (go_at_call 76; (with_reducible refine (impl_isWhite.calls t195 false _ A27.out).mono ?_); rintro e w' ⟨rfl, ⟨nd, rfl⟩⟩) | (go_at_call 115; (with_reducible refine (impl_isFlow.calls t191 false _ A40.out).mono ?_); rintro e w' ⟨rfl, ⟨nd, rfl⟩⟩))
                          go_roundg kj11
                          case measure => have := HK1.out; have := HJ11.out; omega
                          case rel => exact ⟨(wrap64 (x7_1 + 1)), (by first | rfl | (simp; done) | (simp [*]; done)), H', ⟨by have := HK1.out; have := HJ11.out; omega⟩, ⟨by repeat (first | (with_reducible first | exact HB.out | apply below_alloc | apply pw_below_drewN | apply below_drew1) | exact HB.out)⟩⟩
                      · replace c39 := Bool.eq_false_iff.mpr c39
                        subst c39
                        have H1 : (impl_PlainEnd.l0 kj11 a0 t188 false (wrap64 (x7_1 + 1))) = some r := by rw [if_neg (show ¬ (false = true) by decide)] at H; exact H
                        clear H
                        have H := H1
                        clear H1
                        have H' := Aside0.mk H
                        clear H
                        go_wp2_with (first | (go_at_call 71; (with_reducible refine (impl_byteAt.calls a0 (wrap64 (x7_1 - 1)) t195 _ A26.out).mono ?_); rintro e w44 ⟨rfl, hb⟩; have n0_ := Aside0.mk (below_step (by repeat (first | (with_reducible first | exact HB.out | apply below_alloc | apply pw_below_drewN | apply below_drew1) | exact HB.out)) hb); clear HB; have HB := n0_; clear n0_; (try clear hb); (try clear hb2); (try clear hk); (try clear hi)) | (go_at_call 76; (with_reducible refine (impl_isWhite.calls t195 false _ A27.out).mono ?_); rintro e w' ⟨rfl, ⟨nd, rfl⟩⟩))
                        go_roundg kj11
                        case measure => have := HK1.out; have := HJ11.out; omega
                        case rel => exact ⟨(wrap64 (x7_1 + 1)), (by first | rfl | (simp; done) | (simp [*]; done)), H', ⟨by have := HK1.out; have := HJ11.out; omega⟩, ⟨by repeat (first | (with_reducible first | exact HB.out | apply below_alloc | apply pw_below_drewN | apply below_drew1) | exact HB.out)⟩⟩
                · rw [if_neg c25] at H
                  have c25b0 : decide (t188 < x7_1) = false := decide_eq_false c25
                  clear c25
                  by_cases c45 : t191 = 58
                  · rw [if_pos c45] at H
                    have c45b0 : (t191 == 58) = true := beq_iff_eq.mpr c45
                    have c45b1 : (t191 != 58) = false := bne_eq_false_iff_eq.mpr c45
                    clear c45
                    by_cases c46 : x9_11 = true
                    · subst c46
                      have H1 : (impl_PlainEnd.j2 kj11 a0 t188 x7_1) = some r := by rw [if_pos rfl] at H; exact H
                      clear H
                      have H := H1
                      clear H1
                      have H' := Aside0.mk H
                      clear H
                      go_wp2
                      go_meet
                      case rel => exact ⟨_, (x7_1), (by first | rfl | (simp; done) | (simp [*]; done)), H', ⟨by have := HK1.out; have := HJ11.out; first | omega | exact Nat.le_refl _⟩, ⟨by repeat (first | (with_reducible first | exact HB.out | apply below_alloc | apply pw_below_drewN | apply below_drew1) | exact HB.out)⟩⟩
                    · replace c46 := Bool.eq_false_iff.mpr c46
                      subst c46
                      have H1 : (if a2 = true then ((impl_isFlow.f t191).bind fun t199 => (if t199 = true then (impl_PlainEnd.j2 kj11 a0 t188 x7_1) else (impl_PlainEnd.l0 kj11 a0 t188 a2 (wrap64 (x7_1 + 1))))) else (impl_PlainEnd.l0 kj11 a0 t188 a2 (wrap64 (x7_1 + 1)))) = some r := by rw [if_neg (show ¬ (false = true) by decide)] at H; exact H
                      clear H
                      have H := H1
                      clear H1
                      by_cases c47 : a2 = true
                      · subst c47
                        have H1 : ((impl_isFlow.f t191).bind fun t199 => (if t199 = true then (impl_PlainEnd.j2 kj11 a0 t188 x7_1) else (impl_PlainEnd.l0 kj11 a0 t188 true (wrap64 (x7_1 + 1))))) = some r := by rw [if_pos rfl] at H; exact H
                        clear H
                        have H := H1
                        clear H1
                        replace H := Option.bind_eq_some_iff.mp H
                        obtain ⟨t199, A480, H⟩ := H
                        replace H : (if t199 = true then (impl_PlainEnd.j2 kj11 a0 t188 x7_1) else (impl_PlainEnd.l0 kj11 a0 t188 true (wrap64 (x7_1 + 1)))) = some r := H
                        have A48 := Aside0.mk A480
                        clear A480
                        by_cases c49 : t199 = true
                        · subst c49
                          have H1 : (impl_PlainEnd.j2 kj11 a0 t188 x7_1) = some r := by rw [if_pos rfl] at H; exact H
                          clear H
                          have H := H1
                          clear H1
                          have H' := Aside0.mk H
                          clear H
                          go_wp2_with (first | (go_at_call 115; (with_reducible refine (impl_isFlow.calls t191 true _ A48.out).mono ?_); rintro e w' ⟨rfl, ⟨nd, rfl⟩⟩))
                          go_meet
                          case rel => exact ⟨_, (x7_1), (by first | rfl | (simp; done) | (simp [*]; done)), H', ⟨by have := HK1.out; have := HJ11.out; first | omega | exact Nat.le_refl _⟩, ⟨by repeat (first | (with_reducible first | exact HB.out | apply below_alloc | apply pw_below_drewN | apply below_drew1) | exact HB.out)⟩⟩
                        · replace c49 := Bool.eq_false_iff.mpr c49
                          subst c49
                          have H1 : (impl_PlainEnd.l0 kj11 a0 t188 true (wrap64 (x7_1 + 1))) = some r := by rw [if_neg (show ¬ (false = true) by decide)] at H; exact H
                          clear H
                          have H := H1
                          clear H1
                          have H' := Aside0.mk H
                          clear H
                          go_wp2_with (first | (go_at_call 115; (with_reducible refine (impl_isFlow.calls t191 false _ A48.out).mono ?_); rintro e w' ⟨rfl, ⟨nd, rfl⟩⟩))
                          go_roundg kj11
                          case measure => have := HK1.out; have := HJ11.out; omega
                          case rel => exact ⟨(wrap64 (x7_1 + 1)), (by first | rfl | (simp; done) | (simp [*]; done)), H', ⟨by have := HK1.out; have := HJ11.out; omega⟩, ⟨by repeat (first | (with_reducible first | exact HB.out | apply below_alloc | apply pw_below_drewN | apply below_drew1) | exact HB.out)⟩⟩
                      · replace c47 := Bool.eq_false_iff.mpr c47
                        subst c47
                        have H1 : (impl_PlainEnd.l0 kj11 a0 t188 false (wrap64 (x7_1 + 1))) = some r := by rw [if_neg (show ¬ (false = true) by decide)] at H; exact H
                        clear H
                        have H := H1
                        clear H1
                        have H' := Aside0.mk H
                        clear H
                        go_wp2
                        go_roundg kj11
                        case measure => have := HK1.out; have := HJ11.out; omega
                        case rel => exact ⟨(wrap64 (x7_1 + 1)), (by first | rfl | (simp; done) | (simp [*]; done)), H', ⟨by have := HK1.out; have := HJ11.out; omega⟩, ⟨by repeat (first | (with_reducible first | exact HB.out | apply below_alloc | apply pw_below_drewN | apply below_drew1) | exact HB.out)⟩⟩
                  · rw [if_neg c45] at H
                    have c45b0 : (t191 == 58) = false := beq_eq_false_iff_ne.mpr c45
                    have c45b1 : (t191 != 58) = true := bne_iff_ne.mpr c45
                    by_cases c50 : a2 = true
                    · subst c50
                      have H1 : ((impl_isFlow.f t191).bind fun t200 => (if t200 = true then (impl_PlainEnd.j2 kj11 a0 t188 x7_1) else (impl_PlainEnd.l0 kj11 a0 t188 true (wrap64 (x7_1 + 1))))) = some r := by rw [if_pos rfl] at H; exact H
                      clear H
                      have H := H1
                      clear H1
                      replace H := Option.bind_eq_some_iff.mp H
                      obtain ⟨t200, A510, H⟩ := H
                      replace H : (if t200 = true then (impl_PlainEnd.j2 kj11 a0 t188 x7_1) else (impl_PlainEnd.l0 kj11 a0 t188 true (wrap64 (x7_1 + 1)))) = some r := H
                      have A51 := Aside0.mk A510
                      clear A510
                      by_cases c52 : t200 = true
                      · subst c52
                        have H1 : (impl_PlainEnd.j2 kj11 a0 t188 x7_1) = some r := by rw [if_pos rfl] at H; exact H
                        clear H
                        have H := H1
                        clear H1
                        have H' := Aside0.mk H
                        clear H
                        go_wp2_with (first | (go_at_call 115; (with_reducible refine (impl_isFlow.calls t191 true _ A51.out).mono ?_); rintro e w' ⟨rfl, ⟨nd, rfl⟩⟩))
                        go_meet
                        case rel => exact ⟨_, (x7_1), (by first | rfl | (simp; done) | (simp [*]; done)), H', ⟨by have := HK1.out; have := HJ11.out; first | omega | exact Nat.le_refl _⟩, ⟨by repeat (first | (with_reducible first | exact HB.out | apply below_alloc | apply pw_below_drewN | apply below_drew1) | exact HB.out)⟩⟩
                      · replace c52 := Bool.eq_false_iff.mpr c52
                        subst c52
                        have H1 : (impl_PlainEnd.l0 kj11 a0 t188 true (wrap64 (x7_1 + 1))) = some r := by rw [if_neg (show ¬ (false = true) by decide)] at H; exact H
                        clear H
                        have H := H1
                        clear H1
                        have H' := Aside0.mk H
                        clear H
                        go_wp2_with (first | (go_at_call 115; (with_reducible refine (impl_isFlow.calls t191 false _ A51.out).mono ?_); rintro e w' ⟨rfl, ⟨nd, rfl⟩⟩))
                        go_roundg kj11
                        case measure => have := HK1.out; have := HJ11.out; omega
                        case rel => exact ⟨(wrap64 (x7_1 + 1)), (by first | rfl | (simp; done) | (simp [*]; done)), H', ⟨by have := HK1.out; have := HJ11.out; omega⟩, ⟨by repeat (first | (with_reducible first | exact HB.out | apply below_alloc | apply pw_below_drewN | apply below_drew1) | exact HB.out)⟩⟩
                    · replace c50 := Bool.eq_false_iff.mpr c50
                      subst c50
                      have H1 : (impl_PlainEnd.l0 kj11 a0 t188 false (wrap64 (x7_1 + 1))) = some r := by rw [if_neg (show ¬ (false = true) by decide)] at H; exact H
                      clear H
                      have H := H1
                      clear H1
                      have H' := Aside0.mk H
                      clear H
                      go_wp2
                      go_roundg kj11
                      case measure => have := HK1.out; have := HJ11.out; omega
                      case rel => exact ⟨(wrap64 (x7_1 + 1)), (by first | rfl | (simp; done) | (simp [*]; done)), H', ⟨by have := HK1.out; have := HJ11.out; omega⟩, ⟨by repeat (first | (with_reducible first | exact HB.out | apply below_alloc | apply pw_below_drewN | apply below_drew1) | exact HB.out)⟩⟩
              · rw [if_neg c24] at H
                have c24b0 : (t191 == 35) = false := beq_eq_false_iff_ne.mpr c24
                have c24b1 : (t191 != 35) = true := bne_iff_ne.mpr c24
                by_cases c53 : t191 = 58
                · rw [if_pos c53] at H
                  have c53b0 : (t191 == 58) = true := beq_iff_eq.mpr c53
                  have c53b1 : (t191 != 58) = false := bne_eq_false_iff_eq.mpr c53
                  clear c53
                  by_cases c54 : x9_11 = true
                  · subst c54
                    have H1 : (impl_PlainEnd.j2 kj11 a0 t188 x7_1) = some r := by rw [if_pos rfl] at H; exact H
                    clear H
                    have H := H1
                    clear H1
                    have H' := Aside0.mk H
                    clear H
                    go_wp2
                    go_meet
                    case rel => exact ⟨_, (x7_1), (by first | rfl | (simp; done) | (simp [*]; done)), H', ⟨by have := HK1.out; have := HJ11.out; first | omega | exact Nat.le_refl _⟩, ⟨by repeat (first | (with_reducible first | exact HB.out | apply below_alloc | apply pw_below_drewN | apply below_drew1) | exact HB.out)⟩⟩
                  · replace c54 := Bool.eq_false_iff.mpr c54
                    subst c54
                    have H1 : (if a2 = true then ((impl_isFlow.f t191).bind fun t201 => (if t201 = true then (impl_PlainEnd.j2 kj11 a0 t188 x7_1) else (impl_PlainEnd.l0 kj11 a0 t188 a2 (wrap64 (x7_1 + 1))))) else (impl_PlainEnd.l0 kj11 a0 t188 a2 (wrap64 (x7_1 + 1)))) = some r := by rw [if_neg (show ¬ (false = true) by decide)] at H; exact H
                    clear H
                    have H := H1
                    clear H1
                    by_cases c55 : a2 = true
                    · subst c55
                      have H1 : ((impl_isFlow.f t191).bind fun t201 => (if t201 = true then (impl_PlainEnd.j2 kj11 a0 t188 x7_1) else (impl_PlainEnd.l0 kj11 a0 t188 true (wrap64 (x7_1 + 1))))) = some r := by rw [if_pos rfl] at H; exact H
                      clear H
                      have H := H1
                      clear H1
                      replace H := Option.bind_eq_some_iff.mp H
                      obtain ⟨t201, A560, H⟩ := H
                      replace H : (if t201 = true then (impl_PlainEnd.j2 kj11 a0 t188 x7_1) else (impl_PlainEnd.l0 kj11 a0 t188 true (wrap64 (x7_1 + 1)))) = some r := H
                      have A56 := Aside0.mk A560
                      clear A560
                      by_cases c57 : t201 = true
                      · subst c57
                        have H1 : (impl_PlainEnd.j2 kj11 a0 t188 x7_1) = some r := by rw [if_pos rfl] at H; exact H
                        clear H
                        have H := H1
                        clear H1
                        have H' := Aside0.mk H
                        clear H
                        go_wp2_with (first | (go_at_call 115; (with_reducible refine (impl_isFlow.calls t191 true _ A56.out).mono ?_); rintro e w' ⟨rfl, ⟨nd, rfl⟩⟩))
                        go_meet
                        case rel => exact ⟨_, (x7_1), (by first | rfl | (simp; done) | (simp [*]; done)), H', ⟨by have := HK1.out; have := HJ11.out; first | omega | exact Nat.le_refl _⟩, ⟨by repeat (first | (with_reducible first | exact HB.out | apply below_alloc | apply pw_below_drewN | apply below_drew1) | exact HB.out)⟩⟩
                      · replace c57 := Bool.eq_false_iff.mpr c57
                        subst c57
                        have H1 : (impl_PlainEnd.l0 kj11 a0 t188 true (wrap64 (x7_1 + 1))) = some r := by rw [if_neg (show ¬ (false = true) by decide)] at H; exact H
                        clear H
                        have H := H1
                        clear H1
                        have H' := Aside0.mk H
                        clear H
                        go_wp2_with (first | (go_at_call 115; (with_reducible refine (impl_isFlow.calls t191 false _ A56.out).mono ?_); rintro e w' ⟨rfl, ⟨nd, rfl⟩⟩))
                        go_roundg kj11
                        case measure => have := HK1.out; have := HJ11.out; omega
                        case rel => exact ⟨(wrap64 (x7_1 + 1)), (by first | rfl | (simp; done) | (simp [*]; done)), H', ⟨by have := HK1.out; have := HJ11.out; omega⟩, ⟨by repeat (first | (with_reducible first | exact HB.out | apply below_alloc | apply pw_below_drewN | apply below_drew1) | exact HB.out)⟩⟩
                    · replace c55 := Bool.eq_false_iff.mpr c55
                      subst c55
                      have H1 : (impl_PlainEnd.l0 kj11 a0 t188 false (wrap64 (x7_1 + 1))) = some r := by rw [if_neg (show ¬ (false = true) by decide)] at H; exact H
                      clear H
                      have H := H1
                      clear H1
                      have H' := Aside0.mk H
                      clear H
                      go_wp2
                      go_roundg kj11
                      case measure => have := HK1.out; have := HJ11.out; omega
                      case rel => exact ⟨(wrap64 (x7_1 + 1)), (by first | rfl | (simp; done) | (simp [*]; done)), H', ⟨by have := HK1.out; have := HJ11.out; omega⟩, ⟨by repeat (first | (with_reducible first | exact HB.out | apply below_alloc | apply pw_below_drewN | apply below_drew1) | exact HB.out)⟩⟩
                · rw [if_neg c53] at H
                  have c53b0 : (t191 == 58) = false := beq_eq_false_iff_ne.mpr c53
                  have c53b1 : (t191 != 58) = true := bne_iff_ne.mpr c53
                  by_cases c58 : a2 = true
                  · subst c58
                    have H1 : ((impl_isFlow.f t191).bind fun t202 => (if t202 = true then (impl_PlainEnd.j2 kj11 a0 t188 x7_1) else (impl_PlainEnd.l0 kj11 a0 t188 true (wrap64 (x7_1 + 1))))) = some r := by rw [if_pos rfl] at H; exact H
                    clear H
                    have H := H1
                    clear H1
                    replace H := Option.bind_eq_some_iff.mp H
                    obtain ⟨t202, A590, H⟩ := H
                    replace H : (if t202 = true then (impl_PlainEnd.j2 kj11 a0 t188 x7_1) else (impl_PlainEnd.l0 kj11 a0 t188 true (wrap64 (x7_1 + 1)))) = some r := H
                    have A59 := Aside0.mk A590
                    clear A590
                    by_cases c60 : t202 = true
                    · subst c60
                      have H1 : (impl_PlainEnd.j2 kj11 a0 t188 x7_1) = some r := by rw [if_pos rfl] at H; exact H
                      clear H
                      have H := H1
                      clear H1
                      have H' := Aside0.mk H
                      clear H
                      go_wp2_with (first | (go_at_call 115; (with_reducible refine (impl_isFlow.calls t191 true _ A59.out).mono ?_); rintro e w' ⟨rfl, ⟨nd, rfl⟩⟩))
                      go_meet
                      case rel => exact ⟨_, (x7_1), (by first | rfl | (simp; done) | (simp [*]; done)), H', ⟨by have := HK1.out; have := HJ11.out; first | omega | exact Nat.le_refl _⟩, ⟨by repeat (first | (with_reducible first | exact HB.out | apply below_alloc | apply pw_below_drewN | apply below_drew1) | exact HB.out)⟩⟩
                    · replace c60 := Bool.eq_false_iff.mpr c60
                      subst c60
                      have H1 : (impl_PlainEnd.l0 kj11 a0 t188 true (wrap64 (x7_1 + 1))) = some r := by rw [if_neg (show ¬ (false = true) by decide)] at H; exact H
                      clear H
                      have H := H1
                      clear H1
                      have H' := Aside0.mk H
                      clear H
                      go_wp2_with (first | (go_at_call 115; (with_reducible refine (impl_isFlow.calls t191 false _ A59.out).mono ?_); rintro e w' ⟨rfl, ⟨nd, rfl⟩⟩))
                      go_roundg kj11
                      case measure => have := HK1.out; have := HJ11.out; omega
                      case rel => exact ⟨(wrap64 (x7_1 + 1)), (by first | rfl | (simp; done) | (simp [*]; done)), H', ⟨by have := HK1.out; have := HJ11.out; omega⟩, ⟨by repeat (first | (with_reducible first | exact HB.out | apply below_alloc | apply pw_below_drewN | apply below_drew1) | exact HB.out)⟩⟩
                  · replace c58 := Bool.eq_false_iff.mpr c58
                    subst c58
                    have H1 : (impl_PlainEnd.l0 kj11 a0 t188 false (wrap64 (x7_1 + 1))) = some r := by rw [if_neg (show ¬ (false = true) by decide)] at H; exact H
                    clear H
                    have H := H1
                    clear H1
                    have H' := Aside0.mk H
                    clear H
                    go_wp2
                    go_roundg kj11
                    case measure => have := HK1.out; have := HJ11.out; omega
                    case rel => exact ⟨(wrap64 (x7_1 + 1)), (by first | rfl | (simp; done) | (simp [*]; done)), H', ⟨by have := HK1.out; have := HJ11.out; omega⟩, ⟨by repeat (first | (with_reducible first | exact HB.out | apply below_alloc | apply pw_below_drewN | apply below_drew1) | exact HB.out)⟩⟩
  case rest =>
    clear HC5
    try clear c1
    try clear c2
    try clear p2
    try clear c3
    try clear c4
    try clear c5
    try clear c6
    try clear p6
    try clear c7
    try clear c9
    try clear c11
    try clear c16
    try clear c18
    try clear c24
    try clear c24b0
    try clear c24b1
    try clear c25
    try clear c25b0
    try clear c28
    try clear c30
    try clear c30b0
    try clear c30b1
    try clear c31
    try clear c33
    try clear c35
    try clear c39
    try clear c41
    try clear c45
    try clear c45b0
    try clear c45b1
    try clear c46
    try clear c47
    try clear c49
    try clear c50
    try clear c52
    try clear c53
    try clear c53b0
    try clear c53b1
    try clear c54
    try clear c55
    try clear c57
    try clear c58
    try clear c60
    try clear p2
    try clear p6
    obtain ⟨kq, x7_4, rfl, HA, HJ4, HB⟩ := hcut
    cases kq with
    | zero => exact absurd HA.out (by simp [impl_PlainEnd.j2])
    | succ kj4 =>
      have H := HA.out
      clear HA
      simp only [impl_PlainEnd.j2] at H
      have H' := Aside0.mk H
      clear H
      go_wp2
      go_loopg [7] kj4 (fun kq v7 w' => ∃ (x7_2 : Int), v7 = .int .i64 x7_2 ∧ Aside0 (impl_PlainEnd.l1 kq a0 t188 x7_2 = some r) ∧ Aside0 (kq ≤ kj4) ∧ Aside0 (Below w.heap.size w w'))
      case atStart => exact ⟨(x7_4), (by first | rfl | (simp; done) | (simp [*]; done)), H', ⟨Nat.le_refl _⟩, ⟨by repeat (first | (with_reducible first | exact HB.out | apply below_alloc | apply pw_below_drewN | apply below_drew1) | exact HB.out)⟩⟩
      case round =>
        clear H'
        try clear c1
        try clear c2
        try clear p2
        try clear c3
        try clear c4
        try clear c5
        try clear c6
        try clear p6
        try clear c7
        try clear c9
        try clear c11
        try clear c16
        try clear c18
        try clear c24
        try clear c24b0
        try clear c24b1
        try clear c25
        try clear c25b0
        try clear c28
        try clear c30
        try clear c30b0
        try clear c30b1
        try clear c31
        try clear c33
        try clear c35
        try clear c39
        try clear c41
        try clear c45
        try clear c45b0
        try clear c45b1
        try clear c46
        try clear c47
        try clear c49
        try clear c50
        try clear c52
        try clear c53
        try clear c53b0
        try clear c53b1
        try clear c54
        try clear c55
        try clear c57
        try clear c58
        try clear c60
        try clear p2
        try clear p6
        obtain ⟨x7_2, rfl, HA, HK2, HB⟩ := hrel
        cases gk with
        | zero => exact absurd HA.out (by simp [impl_PlainEnd.l1])
        | succ k2 =>
          have H := HA.out
          clear HA
          simp only [impl_PlainEnd.l1] at H
          by_cases c61 : x7_2 > t188
          · rw [if_pos c61] at H
            have c61b0 : decide (t188 < x7_2) = true := decide_eq_true c61
            clear c61
            replace H := Option.bind_eq_some_iff.mp H
            obtain ⟨t203, A620, H⟩ := H
            replace H : ((impl_isWhite.f t203).bind fun t204 => (if t204 = true then (impl_PlainEnd.l1 k2 a0 t188 (wrap64 (x7_2 - 1))) else (some x7_2))) = some r := H
            have A62 := Aside0.mk A620
            clear A620
            replace H := Option.bind_eq_some_iff.mp H
            obtain ⟨t204, A630, H⟩ := H
            replace H : (if t204 = true then (impl_PlainEnd.l1 k2 a0 t188 (wrap64 (x7_2 - 1))) else (some x7_2)) = some r := H
            have A63 := Aside0.mk A630
            clear A630
            by_cases c64 : t204 = true
            · subst c64
              have H1 : (impl_PlainEnd.l1 k2 a0 t188 (wrap64 (x7_2 - 1))) = some r := by rw [if_pos rfl] at H; exact H
              clear H
              have H := H1
              clear H1
              have H' := Aside0.mk H
              clear H
              go_wp2_with (first | (go_at_call 71; (with_reducible refine (impl_byteAt.calls a0 (wrap64 (x7_2 - 1)) t203 _ A62.out).mono ?_); rintro e w65 ⟨rfl, hb⟩; have n0_ := Aside0.mk (below_step (by repeat (first | (with_reducible first | exact HB.out | apply below_alloc | apply pw_below_drewN | apply below_drew1) | exact HB.out)) hb); clear HB; have HB := n0_; clear n0_; (try clear hb); (try clear hb2); (try clear hk); (try clear hi)) | (go_at_call 76; (with_reducible refine (impl_isWhite.calls t203 true _ A63.out).mono ?_); rintro e w' ⟨rfl, ⟨nd, rfl⟩⟩))
              go_roundg k2
              case measure => have := HJ4.out; have := HK2.out; omega
              case rel => exact ⟨(wrap64 (x7_2 - 1)), (by first | rfl | (simp; done) | (simp [*]; done)), H', ⟨by have := HJ4.out; have := HK2.out; omega⟩, ⟨by repeat (first | (with_reducible first | exact HB.out | apply below_alloc | apply pw_below_drewN | apply below_drew1) | exact HB.out)⟩⟩
            · replace c64 := Bool.eq_false_iff.mpr c64
              subst c64
              have H1 : (some x7_2) = some r := by rw [if_neg (show ¬ (false = true) by decide)] at H; exact H
              clear H
              have H := H1
              clear H1
              obtain rfl := Option.some.inj H
              go_wp2_with (first | (go_at_call 71; (with_reducible refine (impl_byteAt.calls a0 (wrap64 (x7_2 - 1)) t203 _ A62.out).mono ?_); rintro e w66 ⟨rfl, hb⟩; have n0_ := Aside0.mk (below_step (by repeat (first | (with_reducible first | exact HB.out | apply below_alloc | apply pw_below_drewN | apply below_drew1) | exact HB.out)) hb); clear HB; have HB := n0_; clear n0_; (try clear hb); (try clear hb2); (try clear hk); (try clear hi)) | (go_at_call 76; (with_reducible refine (impl_isWhite.calls t203 false _ A63.out).mono ?_); rintro e w' ⟨rfl, ⟨nd, rfl⟩⟩))
              go_ret
              exact ⟨by first | rfl | (simp [errW_none, errW_some] <;> rfl) | (simp [*, errW_none, errW_some] <;> rfl), by repeat (first | (with_reducible first | exact HB.out | apply below_alloc | apply pw_below_drewN | apply below_drew1) | exact HB.out)⟩
          · rw [if_neg c61] at H
            have c61b0 : decide (t188 < x7_2) = false := decide_eq_false c61
            clear c61
            obtain rfl := Option.some.inj H
            go_wp2
            go_ret
            exact ⟨by first | rfl | (simp [errW_none, errW_some] <;> rfl) | (simp [*, errW_none, errW_some] <;> rfl), by repeat (first | (with_reducible first | exact HB.out | apply below_alloc | apply pw_below_drewN | apply below_drew1) | exact HB.out)⟩

/-! ### impl_EndAt: function 30 -/
def impl_EndAt.f (a0 : ByteArray) (a1 : Int) : Option (Int) := (impl_spot.f a0 a1).bind fun t205 => (if 0 ≤ t205 then (if t205 ≤ (a0.size : Int) then ((strings_IndexByte.f (a0.extract (t205 : Int).toNat a0.size) 10).bind fun t206 => (if t206 < 0 then (some (a0.size : Int)) else (some (wrap64 (t205 + t206))))) else (none)) else (none))
set_option maxHeartbeats 8000000 in
set_option maxRecDepth 100000 in
theorem impl_EndAt.calls (a0 : ByteArray) (a1 : Int) (r : Int) (w : World) (h : impl_EndAt.f a0 a1 = some r) :
    Calls Try.prog 30 #[.string a0, .int .i64 a1] w fun e w' => e = .returned (.int .i64 r) ∧ Below w.heap.size w w' := by
  have HB := Aside0.mk (Below.refl w.heap.size w)
  have H : ((impl_spot.f a0 a1).bind fun t205 => (if 0 ≤ t205 then (if t205 ≤ (a0.size : Int) then ((strings_IndexByte.f (a0.extract (t205 : Int).toNat a0.size) 10).bind fun t206 => (if t206 < 0 then (some (a0.size : Int)) else (some (wrap64 (t205 + t206))))) else (none)) else (none))) = some r := h
  clear h
  replace H := Option.bind_eq_some_iff.mp H
  obtain ⟨t205, A30, H⟩ := H
  replace H : (if 0 ≤ t205 then (if t205 ≤ (a0.size : Int) then ((strings_IndexByte.f (a0.extract (t205 : Int).toNat a0.size) 10).bind fun t206 => (if t206 < 0 then (some (a0.size : Int)) else (some (wrap64 (t205 + t206))))) else (none)) else (none)) = some r := H
  have A3 := Aside0.mk A30
  clear A30
  by_cases c4 : 0 ≤ t205
  · rw [if_pos c4] at H
    have c4b0 := eq_true c4
    have c4b1 : decide (0 ≤ t205) = true := decide_eq_true c4
    clear c4
    by_cases c5 : t205 ≤ (a0.size : Int)
    · rw [if_pos c5] at H
      have c5b0 := eq_true c5
      have c5b1 : decide (t205 ≤ (a0.size : Int)) = true := decide_eq_true c5
      clear c5
      replace H := Option.bind_eq_some_iff.mp H
      obtain ⟨t206, A60, H⟩ := H
      replace H : (if t206 < 0 then (some (a0.size : Int)) else (some (wrap64 (t205 + t206)))) = some r := H
      have A6 := Aside0.mk A60
      clear A60
      by_cases c7 : t206 < 0
      · rw [if_pos c7] at H
        have c7b0 : decide (t206 < 0) = true := decide_eq_true c7
        clear c7
        obtain rfl := Option.some.inj H
        go_enter Try.func30, Try.ntmps30
        go_wp2_with (first | ((with_reducible refine gate_callee (f := 65) rfl ?_); refine goesL_ (some 8) rfl rfl Try.func65 (by kernel_rfl) rfl #[.string a0, .int .i64 a1] rfl (by (try simp only [List.map_toArray, List.map_cons, List.map_nil]); first | done | rfl | (simp only [List.length_drop, List.length_take]; rfl)) ?_; (with_reducible refine (impl_spot.calls a0 a1 t205 _ A3.out).mono ?_); rintro e w8 ⟨rfl, hb⟩; refine ⟨_, rfl, ?_⟩; have n0_ := Aside0.mk (below_step (by repeat (first | (with_reducible first | exact HB.out | apply below_alloc | apply pw_below_drewN | apply below_drew1) | exact HB.out)) hb); clear HB; have HB := n0_; clear n0_; (try clear hb); (try clear hb2); (try clear hk); (try clear hi)) | ((with_reducible refine gate_callee (f := 93) rfl ?_); refine goesL_ (some 12) rfl rfl Try.func93 (by kernel_rfl) rfl #[.string (a0.extract (t205 : Int).toNat a0.size), .int .u8 10] rfl (by (try simp only [List.map_toArray, List.map_cons, List.map_nil]); first | done | rfl | (simp only [List.length_drop, List.length_take]; rfl)) ?_; (with_reducible refine (strings_IndexByte.calls (a0.extract (t205 : Int).toNat a0.size) 10 t206 _ A6.out).mono ?_); rintro e w' ⟨rfl, ⟨nd, rfl⟩⟩; refine ⟨_, rfl, ?_⟩))
        go_ret
        exact ⟨by first | rfl | (simp [errW_none, errW_some] <;> rfl) | (simp [*, errW_none, errW_some] <;> rfl), by repeat (first | (with_reducible first | exact HB.out | apply below_alloc | apply pw_below_drewN | apply below_drew1) | exact HB.out)⟩
      · rw [if_neg c7] at H
        have c7b0 : decide (t206 < 0) = false := decide_eq_false c7
        clear c7
        obtain rfl := Option.some.inj H
        go_enter Try.func30, Try.ntmps30
        go_wp2_with (first | ((with_reducible refine gate_callee (f := 65) rfl ?_); refine goesL_ (some 8) rfl rfl Try.func65 (by kernel_rfl) rfl #[.string a0, .int .i64 a1] rfl (by (try simp only [List.map_toArray, List.map_cons, List.map_nil]); first | done | rfl | (simp only [List.length_drop, List.length_take]; rfl)) ?_; (with_reducible refine (impl_spot.calls a0 a1 t205 _ A3.out).mono ?_); rintro e w9 ⟨rfl, hb⟩; refine ⟨_, rfl, ?_⟩; have n0_ := Aside0.mk (below_step (by repeat (first | (with_reducible first | exact HB.out | apply below_alloc | apply pw_below_drewN | apply below_drew1) | exact HB.out)) hb); clear HB; have HB := n0_; clear n0_; (try clear hb); (try clear hb2); (try clear hk); (try clear hi)) | ((with_reducible refine gate_callee (f := 93) rfl ?_); refine goesL_ (some 12) rfl rfl Try.func93 (by kernel_rfl) rfl #[.string (a0.extract (t205 : Int).toNat a0.size), .int .u8 10] rfl (by (try simp only [List.map_toArray, List.map_cons, List.map_nil]); first | done | rfl | (simp only [List.length_drop, List.length_take]; rfl)) ?_; (with_reducible refine (strings_IndexByte.calls (a0.extract (t205 : Int).toNat a0.size) 10 t206 _ A6.out).mono ?_); rintro e w' ⟨rfl, ⟨nd, rfl⟩⟩; refine ⟨_, rfl, ?_⟩))
        go_ret
        exact ⟨by first | rfl | (simp [errW_none, errW_some] <;> rfl) | (simp [*, errW_none, errW_some] <;> rfl), by repeat (first | (with_reducible first | exact HB.out | apply below_alloc | apply pw_below_drewN | apply below_drew1) | exact HB.out)⟩
    · rw [if_neg c5] at H
      exact absurd H (by simp)
  · rw [if_neg c4] at H
    exact absurd H (by simp)

end Go.Proofs.Ytglmjmkbahfgaaa.PFnExactPlainAt
