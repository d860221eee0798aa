-- Written by a program of this session, out of the translation.
import Derived.Test.YtmkfodlmddbdeaaPFnLinesx0
import Derived.Test.YtmkfodlmddbdeaaPFnLinesx1
import Derived.Test.YtmkfodlmddbdeaaPFnLinesx2
import Derived.Test.YtmkfodlmddbdeaaPFnLinesx3
namespace Go.Proofs.Ytmkfodlmddbdeaa.PFnLines
open Go.RowKit Go.Proofs.YtmkfodlmddbdeaaW.PrintWords Go.Proofs.YtmkfodlmddbdeaaW.PrintLast Go.Proofs.YtmkfodlmddbdeaaW.PrintMore
attribute [local go_sem] max2_int min2_int max_two min_two max_three min_three max_four min_four   -- for this text's walks alone
set_option linter.unusedVariables false
set_option linter.unusedSimpArgs false

/-! ### spec_l11Draw: function 31 -/
set_option maxHeartbeats 8000000 in
set_option maxRecDepth 100000 in
theorem spec_l11Draw.calls (k : Nat) : ∀ (g : Nat) (s0_0 : List Int) (s0_1 : Int) (s0_2 : Int) (a1 : Int) (a2 : Int) (r1 : ByteArray) (r2 : Int) (r3 : Int) (w0 w : World) (hI : IsS35 w0 w g s0_0 s0_1 s0_2) (hB : Below w0.heap.size w0 w) (h : spec_l11Draw.f k s0_0 s0_1 s0_2 a1 a2 = some (r1, r2, r3)),
    Calls Try.prog 31 #[.pointer (some ⟨g, 0, none⟩), .int .i64 a1, .int .i64 a2] w fun e w' => e = .returned (.string r1) ∧ IsS35 w0 w' g s0_0 r2 r3 ∧ Below w0.heap.size w0 w' ∧ KeepBut w w' g none := by
  induction k using Nat.strongRecOn with
  | _ k ih =>
  intro g s0_0 s0_1 s0_2 a1 a2 r1 r2 r3 w0 w hI hB h
  cases k with
  | zero => exact absurd h (by simp [spec_l11Draw.f])
  | succ k =>
  simp only [spec_l11Draw.f] at h
  have HI0 := Aside0.mk hI
  have HK := Aside0.mk (KeepBut.refl w g none)
  have HL := Aside0.mk hB.size
  clear hI
  have HW0 := Aside0.mk hB.size
  have HB := Aside0.mk hB
  clear hB
  have H : ((spec_l01Below.f s0_0 s0_1 s0_2 9).bind fun bt254 => (if a2 ≤ 0 then (spec_l11Draw.j0 k a1 a2 8 s0_0 bt254.2.1 bt254.2.2) else (spec_l11Draw.j0 k a1 a2 bt254.1 s0_0 bt254.2.1 bt254.2.2))) = some (r1, r2, r3) := h
  clear h
  replace H := Option.bind_eq_some_iff.mp H
  obtain ⟨⟨t254, t255, t256⟩, A40, H⟩ := H
  replace H : (if a2 ≤ 0 then (spec_l11Draw.j0 k a1 a2 8 s0_0 t255 t256) else (spec_l11Draw.j0 k a1 a2 t254 s0_0 t255 t256)) = some (r1, r2, r3) := H
  have A4 := Aside0.mk A40
  clear A40
  have HC5 := Aside0.mk H
  clear H
  go_enter Try.func31, Try.ntmps31
  go_upto_if 14 with (first | ((with_reducible refine gate_callee (f := 16) rfl ?_); refine goesL_ (some 12) rfl rfl Try.func16 (by kernel_rfl) rfl #[.pointer (some ⟨g, 0, none⟩), .int .i64 9] rfl (by (try simp only [List.map_toArray, List.map_cons, List.map_nil]); first | done | rfl | (simp only [List.length_drop, List.length_take]; rfl)) ?_; (with_reducible refine (spec_l01Below.calls g s0_0 s0_1 s0_2 9 t254 t255 t256 w0 _ ?side1 ?side2 A4.out).mono ?_); (case side1 => repeat (first | (with_reducible first | exact HI0.out | apply IsS35.alloc | apply IsS35.drewN | apply IsS35.drew | apply IsS35.set_1 | apply IsS35.set_2) | exact HI0.out)); (case side2 => repeat (first | (with_reducible first | exact HB.out | apply below_alloc | apply pw_below_drewN | apply below_drew1 | refine below_set ?_ (IsS35.ge HI0.out)) | exact HB.out)); rintro e w6 ⟨rfl, hi, hb, hk⟩; refine ⟨_, rfl, ?_⟩; have n0_ := Aside0.mk (KeepBut.trans (by repeat (first | (with_reducible first | exact HK.out | apply KeepBut.set_ | apply keep_drewN | apply keep_drew | apply keep_alloc) | exact HK.out)) hk (.inl rfl)); have n1_ := Aside0.mk (hb); have n2_ := Aside0.mk (hi); clear HK; clear HB; clear HI0; have HK := n0_; have HB := n1_; have HI0 := n2_; clear n0_ n1_ n2_; (try clear hb); (try clear hb2); (try clear hk); (try clear hi)))
  (try simp only [Act.put, List.setIfInBounds_toArray, List.set_cons_zero, List.set_cons_succ])
  go_cut [7] (fun v7 wc => ∃ (kq : Nat) (x7_4 : Int), v7 = .int .i64 x7_4 ∧ Aside0 (spec_l11Draw.j0 kq a1 a2 x7_4 s0_0 t255 t256 = some (r1, r2, r3)) ∧ Aside0 (kq ≤ k) ∧ Aside0 (IsS35 w0 wc g s0_0 t255 t256) ∧ Aside0 (KeepBut w wc g none) ∧ Aside0 (Below w0.heap.size w0 wc))
  case first =>
    have H := HC5.out
    clear HC5
    by_cases c7 : a2 ≤ 0
    · rw [if_pos c7] at H
      have c7b0 : decide (a2 ≤ 0) = true := decide_eq_true c7
      clear c7
      (first | rw [c7b0] | (simp only [i64_w, i32_w]; rw [c7b0]) | skip)
      have H' := Aside0.mk H
      clear H
      go_wp2
      go_meet
      case rel => exact ⟨_, (8), (by first | rfl | (simp; done) | (simp [*]; done)), H', ⟨by first | omega | exact Nat.le_refl _⟩, ⟨by repeat (first | (with_reducible first | exact HI0.out | apply IsS35.alloc | apply IsS35.drewN | apply IsS35.drew | apply IsS35.set_1 | apply IsS35.set_2) | exact HI0.out)⟩, ⟨by repeat (first | (with_reducible first | exact HK.out | apply KeepBut.set_ | apply keep_drewN | apply keep_drew | apply keep_alloc) | exact HK.out)⟩, ⟨by repeat (first | (with_reducible first | exact HB.out | apply below_alloc | apply pw_below_drewN | apply below_drew1 | refine below_set ?_ (IsS35.ge HI0.out)) | exact HB.out)⟩⟩
    · rw [if_neg c7] at H
      have c7b0 : decide (a2 ≤ 0) = false := decide_eq_false c7
      clear c7
      (first | rw [c7b0] | (simp only [i64_w, i32_w]; rw [c7b0]) | skip)
      have H' := Aside0.mk H
      clear H
      go_wp2
      go_meet
      case rel => exact ⟨_, (t254), (by first | rfl | (simp; done) | (simp [*]; done)), H', ⟨by first | omega | exact Nat.le_refl _⟩, ⟨by repeat (first | (with_reducible first | exact HI0.out | apply IsS35.alloc | apply IsS35.drewN | apply IsS35.drew | apply IsS35.set_1 | apply IsS35.set_2) | exact HI0.out)⟩, ⟨by repeat (first | (with_reducible first | exact HK.out | apply KeepBut.set_ | apply keep_drewN | apply keep_drew | apply keep_alloc) | exact HK.out)⟩, ⟨by repeat (first | (with_reducible first | exact HB.out | apply below_alloc | apply pw_below_drewN | apply below_drew1 | refine below_set ?_ (IsS35.ge HI0.out)) | exact HB.out)⟩⟩
  case rest =>
    clear HC5
    try clear c1
    try clear p2
    try clear c3
    try clear c7
    try clear c7b0
    obtain ⟨kq, x7_4, rfl, HA, HJ4, HI0, HK, HB⟩ := hcut
    cases kq with
    | zero => exact absurd HA.out (by simp [spec_l11Draw.j0])
    | succ kj4 =>
      have H := HA.out
      clear HA
      simp only [spec_l11Draw.j0] at H
      by_cases c8 : x7_4 < 4
      · rw [if_pos c8] at H
        have c8b0 : decide (x7_4 < 4) = true := decide_eq_true c8
        clear c8
        replace H := Option.bind_eq_some_iff.mp H
        obtain ⟨⟨t257, t258, t259⟩, A90, H⟩ := H
        replace H : (spec_l11Draw.l0 kj4 a1 a2 (⟨#[]⟩ : ByteArray) (wrap64 (1 + t257)) s0_0 t258 t259) = some (r1, r2, r3) := H
        have A9 := Aside0.mk A90
        clear A90
        have H' := Aside0.mk H
        clear H
        go_wp2_with (first | ((with_reducible refine gate_callee (f := 16) rfl ?_); refine goesL_ (some 19) rfl rfl Try.func16 (by kernel_rfl) rfl #[.pointer (some ⟨g, 0, none⟩), .int .i64 3] rfl (by (try simp only [List.map_toArray, List.map_cons, List.map_nil]); first | done | rfl | (simp only [List.length_drop, List.length_take]; rfl)) ?_; (with_reducible refine (spec_l01Below.calls g s0_0 t255 t256 3 t257 t258 t259 w0 _ ?side1 ?side2 A9.out).mono ?_); (case side1 => repeat (first | (with_reducible first | exact HI0.out | apply IsS35.alloc | apply IsS35.drewN | apply IsS35.drew | apply IsS35.set_1 | apply IsS35.set_2) | exact HI0.out)); (case side2 => repeat (first | (with_reducible first | exact HB.out | apply below_alloc | apply pw_below_drewN | apply below_drew1 | refine below_set ?_ (IsS35.ge HI0.out)) | exact HB.out)); rintro e w10 ⟨rfl, hi, hb, hk⟩; refine ⟨_, rfl, ?_⟩; have n0_ := Aside0.mk (KeepBut.trans (by repeat (first | (with_reducible first | exact HK.out | apply KeepBut.set_ | apply keep_drewN | apply keep_drew | apply keep_alloc) | exact HK.out)) hk (.inl rfl)); have n1_ := Aside0.mk (hb); have n2_ := Aside0.mk (hi); clear HK; clear HB; clear HI0; have HK := n0_; have HB := n1_; have HI0 := n2_; clear n0_ n1_ n2_; (try clear hb); (try clear hb2); (try clear hk); (try clear hi)))
        go_loopg [8, 9] kj4 (fun kq v8 v9 w' => ∃ (x8_2 : ByteArray) (x9_2 : Int) (x1001_2 : Int) (x1002_2 : Int), v8 = .string x8_2 ∧ v9 = .int .i64 x9_2 ∧ Aside0 (spec_l11Draw.l0 kq a1 a2 x8_2 x9_2 s0_0 x1001_2 x1002_2 = some (r1, r2, r3)) ∧ Aside0 (kq ≤ kj4) ∧ Aside0 (IsS35 w0 w' g s0_0 x1001_2 x1002_2) ∧ Aside0 (KeepBut w w' g none) ∧ Aside0 (Below w0.heap.size w0 w'))
        case atStart => exact ⟨((⟨#[]⟩ : ByteArray)), (wrap64 (1 + t257)), (t258), (t259), (by first | rfl | (simp; done) | (simp [*]; done)), (by first | rfl | (simp; done) | (simp [*]; done)), H', ⟨Nat.le_refl _⟩, ⟨by repeat (first | (with_reducible first | exact HI0.out | apply IsS35.alloc | apply IsS35.drewN | apply IsS35.drew | apply IsS35.set_1 | apply IsS35.set_2) | exact HI0.out)⟩, ⟨by repeat (first | (with_reducible first | exact HK.out | apply KeepBut.set_ | apply keep_drewN | apply keep_drew | apply keep_alloc) | exact HK.out)⟩, ⟨by repeat (first | (with_reducible first | exact HB.out | apply below_alloc | apply pw_below_drewN | apply below_drew1 | refine below_set ?_ (IsS35.ge HI0.out)) | exact HB.out)⟩⟩
        case round =>
          clear H'
          try clear c1
          try clear p2
          try clear c3
          try clear p6
          try clear c7
          try clear c7b0
          try clear c8
          try clear c8b0
          try clear p2
          obtain ⟨x8_2, x9_2, x1001_2, x1002_2, rfl, rfl, HA, HK2, HI0, HK, HB⟩ := hrel
          cases gk with
          | zero => exact absurd HA.out (by simp [spec_l11Draw.l0])
          | succ k2 =>
            have H := HA.out
            clear HA
            simp only [spec_l11Draw.l0] at H
            by_cases c11 : x9_2 > 0
            · rw [if_pos c11] at H
              have c11b0 : decide (0 < x9_2) = true := decide_eq_true c11
              clear c11
              have HC12 := Aside0.mk H
              clear H
              go_upto_if 26 with (fail)
              go_cut [8] (fun v8 wc => ∃ (kq : Nat) (x8_11 : ByteArray), v8 = .string x8_11 ∧ Aside0 (spec_l11Draw.j2 kq a1 a2 x8_11 x9_2 s0_0 x1001_2 x1002_2 = some (r1, r2, r3)) ∧ Aside0 (kq ≤ k2) ∧ Aside0 (IsS35 w0 wc g s0_0 x1001_2 x1002_2) ∧ Aside0 (KeepBut w wc g none) ∧ Aside0 (Below w0.heap.size w0 wc))
              case first =>
                have H := HC12.out
                clear HC12
                by_cases c13 : x8_2.toList = ([] : List UInt8)
                · rw [if_pos c13] at H
                  have c13b14 : x8_2.toList.isEmpty = true := by rw [c13]; rfl
                  try rw [c13b14]
                  have c13b0 : (x8_2.toList == ([] : List UInt8)) = true := beq_iff_eq.mpr c13
                  have c13b1 : (x8_2.toList != ([] : List UInt8)) = false := bne_eq_false_iff_eq.mpr c13
                  clear c13
                  (first | rw [c13b0] | (simp only [i64_w, i32_w]; rw [c13b0]) | skip)
                  have H' := Aside0.mk H
                  clear H
                  go_wp2
                  go_meet
                  case rel => exact ⟨_, (x8_2), (by first | rfl | (simp; done) | (simp [*]; done)), H', ⟨by have := HJ4.out; have := HK2.out; first | omega | exact Nat.le_refl _⟩, ⟨by repeat (first | (with_reducible first | exact HI0.out | apply IsS35.alloc | apply IsS35.drewN | apply IsS35.drew | apply IsS35.set_1 | apply IsS35.set_2) | exact HI0.out)⟩, ⟨by repeat (first | (with_reducible first | exact HK.out | apply KeepBut.set_ | apply keep_drewN | apply keep_drew | apply keep_alloc) | exact HK.out)⟩, ⟨by repeat (first | (with_reducible first | exact HB.out | apply below_alloc | apply pw_below_drewN | apply below_drew1 | refine below_set ?_ (IsS35.ge HI0.out)) | exact HB.out)⟩⟩
                · rw [if_neg c13] at H
                  have c13b14 : x8_2.toList.isEmpty = false := by simpa using c13
                  try rw [c13b14]
                  have c13b0 : (x8_2.toList == ([] : List UInt8)) = false := beq_eq_false_iff_ne.mpr c13
                  have c13b1 : (x8_2.toList != ([] : List UInt8)) = true := bne_iff_ne.mpr c13
                  (first | rw [c13b0] | (simp only [i64_w, i32_w]; rw [c13b0]) | skip)
                  replace H := Option.bind_eq_some_iff.mp H
                  obtain ⟨t260, A140, H⟩ := H
                  replace H : (if x8_2.size + t260.size ≤ 9223372036854775807 then (spec_l11Draw.j2 k2 a1 a2 (x8_2 ++ t260) x9_2 s0_0 x1001_2 x1002_2) else (none)) = some (r1, r2, r3) := H
                  have A14 := Aside0.mk A140
                  clear A140
                  by_cases c15 : x8_2.size + t260.size ≤ 9223372036854775807
                  · rw [if_pos c15] at H
                    have c15b0 := eq_true c15
                    have c15b1 : decide (x8_2.size + t260.size ≤ 9223372036854775807) = true := decide_eq_true c15
                    try have c15b2 : (9223372036854775807 < x8_2.size + t260.size) = False := eq_false (Nat.not_lt.2 c15)
                    try (have c15b4 := c15b2; simp only [ByteArray.size_extract, Nat.min_self] at c15b4)
                    have H' := Aside0.mk H
                    clear H
                    go_wp2_with (first | ((with_reducible refine gate_callee (f := 35) rfl ?_); refine goesL_ (some 29) rfl rfl Try.func35 (by kernel_rfl) rfl #[.int .i64 a1] rfl (by (try simp only [List.map_toArray, List.map_cons, List.map_nil]); first | done | rfl | (simp only [List.length_drop, List.length_take]; rfl)) ?_; (with_reducible refine (spec_l11Pad.calls k2 a1 t260 _ A14.out).mono ?_); rintro e w' ⟨rfl, ⟨nd, rfl⟩⟩; refine ⟨_, rfl, ?_⟩))
                    go_meet
                    case rel => exact ⟨_, (x8_2 ++ t260), (by first | rfl | (simp; done) | (simp [*]; done)), H', ⟨by have := HJ4.out; have := HK2.out; first | omega | exact Nat.le_refl _⟩, ⟨by repeat (first | (with_reducible first | exact HI0.out | apply IsS35.alloc | apply IsS35.drewN | apply IsS35.drew | apply IsS35.set_1 | apply IsS35.set_2) | exact HI0.out)⟩, ⟨by repeat (first | (with_reducible first | exact HK.out | apply KeepBut.set_ | apply keep_drewN | apply keep_drew | apply keep_alloc) | exact HK.out)⟩, ⟨by repeat (first | (with_reducible first | exact HB.out | apply below_alloc | apply pw_below_drewN | apply below_drew1 | refine below_set ?_ (IsS35.ge HI0.out)) | exact HB.out)⟩⟩
                  · rw [if_neg c15] at H
                    exact absurd H (by simp)
              case rest =>
                clear HC12
                try clear c1
                try clear p2
                try clear c3
                try clear p6
                try clear c7
                try clear c7b0
                try clear c8
                try clear c8b0
                try clear c11
                try clear c11b0
                try clear c13
                try clear c13b0
                try clear c13b1
                try clear c15
                try clear c15b0
                try clear c15b1
                try clear c15b2
                try clear p2
                try clear p6
                obtain ⟨kq, x8_11, rfl, HA, HJ11, HI0, HK, HB⟩ := hcut
                cases kq with
                | zero => exact absurd HA.out (by simp [spec_l11Draw.j2])
                | succ kj11 =>
                  have H := HA.out
                  clear HA
                  simp only [spec_l11Draw.j2] at H
                  obtain ⟨y261, hy261⟩ : ∃ y_ : List ByteArray, y_ = (([(⟨#[]⟩ : ByteArray), (⟨#[]⟩ : ByteArray), (⟨#[]⟩ : ByteArray), (⟨#[38, 97, 32]⟩ : ByteArray)] : List ByteArray)) := ⟨_, rfl⟩
                  replace H : ((spec_l01Of.f s0_0 x1001_2 x1002_2 y261).bind fun bt264 => (if x8_11.size + bt264.1.size ≤ 9223372036854775807 then ((spec_l01Of.f s0_0 bt264.2.1 bt264.2.2 (([(⟨#[97]⟩ : ByteArray), (⟨#[107, 101, 121]⟩ : ByteArray), (⟨#[39, 107, 39]⟩ : ByteArray), (⟨#[34, 107, 34]⟩ : ByteArray), (⟨#[42, 97]⟩ : ByteArray), (⟨#[120, 32, 121]⟩ : ByteArray)] : List ByteArray))).bind fun bt270 => (if (x8_11 ++ bt264.1).size + bt270.1.size ≤ 9223372036854775807 then ((spec_l01Of.f s0_0 bt270.2.1 bt270.2.2 (([(⟨#[58]⟩ : ByteArray), (⟨#[58]⟩ : ByteArray), (⟨#[32, 58]⟩ : ByteArray)] : List ByteArray))).bind fun bt276 => (if ((x8_11 ++ bt264.1) ++ bt270.1).size + bt276.1.size ≤ 9223372036854775807 then ((spec_l11Value0.f kj11 s0_0 bt276.2.1 bt276.2.2 a1 a2).bind fun bt279 => (if (((x8_11 ++ bt264.1) ++ bt270.1) ++ bt276.1).size + bt279.1.size ≤ 9223372036854775807 then (spec_l11Draw.l0 kj11 a1 a2 ((((x8_11 ++ bt264.1) ++ bt270.1) ++ bt276.1) ++ bt279.1) (wrap64 (x9_2 - 1)) s0_0 bt279.2.1 bt279.2.2) else (none))) else (none))) else (none))) else (none))) = some (r1, r2, r3) := by first | (rw [hy261]; with_reducible exact H) | (have H2_ := (Option.bind_some _ _).symm.trans H; rw [hy261]; with_reducible exact H2_) | (have H2_ := (Option.bind_some _ _).symm.trans H; with_reducible exact H2_) | with_reducible exact H | (rw [hy261]; exact H) | exact H
                  have Ny261 := Aside0.mk hy261
                  clear hy261
                  replace H := Option.bind_eq_some_iff.mp H
                  obtain ⟨⟨t264, t265, t266⟩, A160, H⟩ := H
                  replace H : (if x8_11.size + t264.size ≤ 9223372036854775807 then ((spec_l01Of.f s0_0 t265 t266 (([(⟨#[97]⟩ : ByteArray), (⟨#[107, 101, 121]⟩ : ByteArray), (⟨#[39, 107, 39]⟩ : ByteArray), (⟨#[34, 107, 34]⟩ : ByteArray), (⟨#[42, 97]⟩ : ByteArray), (⟨#[120, 32, 121]⟩ : ByteArray)] : List ByteArray))).bind fun bt270 => (if (x8_11 ++ t264).size + bt270.1.size ≤ 9223372036854775807 then ((spec_l01Of.f s0_0 bt270.2.1 bt270.2.2 (([(⟨#[58]⟩ : ByteArray), (⟨#[58]⟩ : ByteArray), (⟨#[32, 58]⟩ : ByteArray)] : List ByteArray))).bind fun bt276 => (if ((x8_11 ++ t264) ++ bt270.1).size + bt276.1.size ≤ 9223372036854775807 then ((spec_l11Value0.f kj11 s0_0 bt276.2.1 bt276.2.2 a1 a2).bind fun bt279 => (if (((x8_11 ++ t264) ++ bt270.1) ++ bt276.1).size + bt279.1.size ≤ 9223372036854775807 then (spec_l11Draw.l0 kj11 a1 a2 ((((x8_11 ++ t264) ++ bt270.1) ++ bt276.1) ++ bt279.1) (wrap64 (x9_2 - 1)) s0_0 bt279.2.1 bt279.2.2) else (none))) else (none))) else (none))) else (none)) = some (r1, r2, r3) := H
                  have A16 := Aside0.mk A160
                  clear A160
                  by_cases c17 : x8_11.size + t264.size ≤ 9223372036854775807
                  · rw [if_pos c17] at H
                    have c17b0 := eq_true c17
                    have c17b1 : decide (x8_11.size + t264.size ≤ 9223372036854775807) = true := decide_eq_true c17
                    try have c17b2 : (9223372036854775807 < x8_11.size + t264.size) = False := eq_false (Nat.not_lt.2 c17)
                    try (have c17b4 := c17b2; simp only [ByteArray.size_extract, Nat.min_self] at c17b4)
                    obtain ⟨y267, hy267⟩ : ∃ y_ : List ByteArray, y_ = (([(⟨#[97]⟩ : ByteArray), (⟨#[107, 101, 121]⟩ : ByteArray), (⟨#[39, 107, 39]⟩ : ByteArray), (⟨#[34, 107, 34]⟩ : ByteArray), (⟨#[42, 97]⟩ : ByteArray), (⟨#[120, 32, 121]⟩ : ByteArray)] : List ByteArray)) := ⟨_, rfl⟩
                    replace H : ((spec_l01Of.f s0_0 t265 t266 y267).bind fun bt270 => (if (x8_11 ++ t264).size + bt270.1.size ≤ 9223372036854775807 then ((spec_l01Of.f s0_0 bt270.2.1 bt270.2.2 (([(⟨#[58]⟩ : ByteArray), (⟨#[58]⟩ : ByteArray), (⟨#[32, 58]⟩ : ByteArray)] : List ByteArray))).bind fun bt276 => (if ((x8_11 ++ t264) ++ bt270.1).size + bt276.1.size ≤ 9223372036854775807 then ((spec_l11Value0.f kj11 s0_0 bt276.2.1 bt276.2.2 a1 a2).bind fun bt279 => (if (((x8_11 ++ t264) ++ bt270.1) ++ bt276.1).size + bt279.1.size ≤ 9223372036854775807 then (spec_l11Draw.l0 kj11 a1 a2 ((((x8_11 ++ t264) ++ bt270.1) ++ bt276.1) ++ bt279.1) (wrap64 (x9_2 - 1)) s0_0 bt279.2.1 bt279.2.2) else (none))) else (none))) else (none))) = some (r1, r2, r3) := by first | (rw [hy267]; with_reducible exact H) | (have H2_ := (Option.bind_some _ _).symm.trans H; rw [hy267]; with_reducible exact H2_) | (have H2_ := (Option.bind_some _ _).symm.trans H; with_reducible exact H2_) | with_reducible exact H | (rw [hy267]; exact H) | exact H
                    have Ny267 := Aside0.mk hy267
                    clear hy267
                    replace H := Option.bind_eq_some_iff.mp H
                    obtain ⟨⟨t270, t271, t272⟩, A180, H⟩ := H
                    replace H : (if (x8_11 ++ t264).size + t270.size ≤ 9223372036854775807 then ((spec_l01Of.f s0_0 t271 t272 (([(⟨#[58]⟩ : ByteArray), (⟨#[58]⟩ : ByteArray), (⟨#[32, 58]⟩ : ByteArray)] : List ByteArray))).bind fun bt276 => (if ((x8_11 ++ t264) ++ t270).size + bt276.1.size ≤ 9223372036854775807 then ((spec_l11Value0.f kj11 s0_0 bt276.2.1 bt276.2.2 a1 a2).bind fun bt279 => (if (((x8_11 ++ t264) ++ t270) ++ bt276.1).size + bt279.1.size ≤ 9223372036854775807 then (spec_l11Draw.l0 kj11 a1 a2 ((((x8_11 ++ t264) ++ t270) ++ bt276.1) ++ bt279.1) (wrap64 (x9_2 - 1)) s0_0 bt279.2.1 bt279.2.2) else (none))) else (none))) else (none)) = some (r1, r2, r3) := H
                    have A18 := Aside0.mk A180
                    clear A180
                    by_cases c19 : (x8_11 ++ t264).size + t270.size ≤ 9223372036854775807
                    · rw [if_pos c19] at H
                      have c19b0 := eq_true c19
                      have c19b1 : decide ((x8_11 ++ t264).size + t270.size ≤ 9223372036854775807) = true := decide_eq_true c19
                      try have c19b2 : (9223372036854775807 < (x8_11 ++ t264).size + t270.size) = False := eq_false (Nat.not_lt.2 c19)
                      try have c19b5 : (9223372036854775807 < x8_11.size + t264.size + t270.size) = False := by (have q := c19b2; simp only [ByteArray.size_append] at q; exact q)
                      try (have c19b4 := c19b2; simp only [ByteArray.size_extract, Nat.min_self] at c19b4)
                      obtain ⟨y273, hy273⟩ : ∃ y_ : List ByteArray, y_ = (([(⟨#[58]⟩ : ByteArray), (⟨#[58]⟩ : ByteArray), (⟨#[32, 58]⟩ : ByteArray)] : List ByteArray)) := ⟨_, rfl⟩
                      replace H : ((spec_l01Of.f s0_0 t271 t272 y273).bind fun bt276 => (if ((x8_11 ++ t264) ++ t270).size + bt276.1.size ≤ 9223372036854775807 then ((spec_l11Value0.f kj11 s0_0 bt276.2.1 bt276.2.2 a1 a2).bind fun bt279 => (if (((x8_11 ++ t264) ++ t270) ++ bt276.1).size + bt279.1.size ≤ 9223372036854775807 then (spec_l11Draw.l0 kj11 a1 a2 ((((x8_11 ++ t264) ++ t270) ++ bt276.1) ++ bt279.1) (wrap64 (x9_2 - 1)) s0_0 bt279.2.1 bt279.2.2) else (none))) else (none))) = some (r1, r2, r3) := by first | (rw [hy273]; with_reducible exact H) | (have H2_ := (Option.bind_some _ _).symm.trans H; rw [hy273]; with_reducible exact H2_) | (have H2_ := (Option.bind_some _ _).symm.trans H; with_reducible exact H2_) | with_reducible exact H | (rw [hy273]; exact H) | exact H
                      have Ny273 := Aside0.mk hy273
                      clear hy273
                      replace H := Option.bind_eq_some_iff.mp H
                      obtain ⟨⟨t276, t277, t278⟩, A200, H⟩ := H
                      replace H : (if ((x8_11 ++ t264) ++ t270).size + t276.size ≤ 9223372036854775807 then ((spec_l11Value0.f kj11 s0_0 t277 t278 a1 a2).bind fun bt279 => (if (((x8_11 ++ t264) ++ t270) ++ t276).size + bt279.1.size ≤ 9223372036854775807 then (spec_l11Draw.l0 kj11 a1 a2 ((((x8_11 ++ t264) ++ t270) ++ t276) ++ bt279.1) (wrap64 (x9_2 - 1)) s0_0 bt279.2.1 bt279.2.2) else (none))) else (none)) = some (r1, r2, r3) := H
                      have A20 := Aside0.mk A200
                      clear A200
                      by_cases c21 : ((x8_11 ++ t264) ++ t270).size + t276.size ≤ 9223372036854775807
                      · rw [if_pos c21] at H
                        have c21b0 := eq_true c21
                        have c21b1 : decide (((x8_11 ++ t264) ++ t270).size + t276.size ≤ 9223372036854775807) = true := decide_eq_true c21
                        try have c21b2 : (9223372036854775807 < ((x8_11 ++ t264) ++ t270).size + t276.size) = False := eq_false (Nat.not_lt.2 c21)
                        try have c21b5 : (9223372036854775807 < x8_11.size + t264.size + t270.size + t276.size) = False := by (have q := c21b2; simp only [ByteArray.size_append] at q; exact q)
                        try (have c21b4 := c21b2; simp only [ByteArray.size_extract, Nat.min_self] at c21b4)
                        replace H := Option.bind_eq_some_iff.mp H
                        obtain ⟨⟨t279, t280, t281⟩, A220, H⟩ := H
                        replace H : (if (((x8_11 ++ t264) ++ t270) ++ t276).size + t279.size ≤ 9223372036854775807 then (spec_l11Draw.l0 kj11 a1 a2 ((((x8_11 ++ t264) ++ t270) ++ t276) ++ t279) (wrap64 (x9_2 - 1)) s0_0 t280 t281) else (none)) = some (r1, r2, r3) := H
                        have A22 := Aside0.mk A220
                        clear A220
                        by_cases c23 : (((x8_11 ++ t264) ++ t270) ++ t276).size + t279.size ≤ 9223372036854775807
                        · rw [if_pos c23] at H
                          have c23b0 := eq_true c23
                          have c23b1 : decide ((((x8_11 ++ t264) ++ t270) ++ t276).size + t279.size ≤ 9223372036854775807) = true := decide_eq_true c23
                          try have c23b2 : (9223372036854775807 < (((x8_11 ++ t264) ++ t270) ++ t276).size + t279.size) = False := eq_false (Nat.not_lt.2 c23)
                          try have c23b5 : (9223372036854775807 < x8_11.size + t264.size + t270.size + t276.size + t279.size) = False := by (have q := c23b2; simp only [ByteArray.size_append] at q; exact q)
                          try (have c23b4 := c23b2; simp only [ByteArray.size_extract, Nat.min_self] at c23b4)
                          have H' := Aside0.mk H
                          clear H
                          go_wp2_with (first | ((with_reducible refine gate_dst (N := 33) rfl ?_); refine Kd.R_lit Kd.string _ 9 ?hg (N := 33) ?hd (xs := ([(⟨#[]⟩ : ByteArray), (⟨#[]⟩ : ByteArray), (⟨#[]⟩ : ByteArray), (⟨#[38, 97, 32]⟩ : ByteArray)] : List ByteArray)) (inner := [.string (⟨#[]⟩ : ByteArray), .string (⟨#[]⟩ : ByteArray), .string (⟨#[]⟩ : ByteArray), .string (⟨#[38, 97, 32]⟩ : ByteArray)]) (ok := fun _ => True) (okp := fun _ => True) ?hr ?hp (fun _ hk => hk) trivial (Below.refl _ _) (Nat.le_refl _) (by simp) ?_; (case hd => rfl); (case hg => rfl); (case hr => first | (go_simp; done) | (go_simp; rfl)); (case hp => exact (Reps.one (show Kd.M Kd.string _ _ _ (⟨#[]⟩ : ByteArray) [.string (⟨#[]⟩ : ByteArray)] from rfl) (Reps.one (show Kd.M Kd.string _ _ _ (⟨#[]⟩ : ByteArray) [.string (⟨#[]⟩ : ByteArray)] from rfl) (Reps.one (show Kd.M Kd.string _ _ _ (⟨#[]⟩ : ByteArray) [.string (⟨#[]⟩ : ByteArray)] from rfl) (Reps.one (show Kd.M Kd.string _ _ _ (⟨#[38, 97, 32]⟩ : ByteArray) [.string (⟨#[38, 97, 32]⟩ : ByteArray)] from rfl) (Reps.none _ _)))))); intro v262 w24 ho25 hb hg_ hnew_; clear hg_ hnew_; (first | rw [← Ny261.out] at ho25 | (simp only [Int.reduceToNat] at ho25; rw [← Ny261.out] at ho25)); have n0_ := Aside0.mk (Kd.R_lower ho25 (keep_size (w := w) (g := g) (row := none) (by repeat (first | (with_reducible first | exact HK.out | apply KeepBut.set_ | apply keep_drewN | apply keep_drew | apply keep_alloc) | exact HK.out)))); have n1_ := Aside0.mk (IsS35.below (by repeat (first | (with_reducible first | exact HI0.out | apply IsS35.alloc | apply IsS35.drewN | apply IsS35.drew | apply IsS35.set_1 | apply IsS35.set_2) | exact HI0.out)) hb); have n2_ := Aside0.mk (KeepBut.trans (by repeat (first | (with_reducible first | exact HK.out | apply KeepBut.set_ | apply keep_drewN | apply keep_drew | apply keep_alloc) | exact HK.out)) (KeepBut.of_below hb g none) (.inl rfl)); have n3_ := Aside0.mk (below_step (by repeat (first | (with_reducible first | exact HB.out | apply below_alloc | apply pw_below_drewN | apply below_drew1 | refine below_set ?_ (IsS35.ge HI0.out)) | exact HB.out)) hb); clear HI0; clear HK; clear HB; have HO263 := n0_; have HI0 := n1_; have HK := n2_; have HB := n3_; clear n0_ n1_ n2_ n3_; clear hb ho25; obtain ⟨Ao26, co26, eo26⟩ := Kd.R_slice HO263.out; subst eo26) | ((with_reducible refine gate_callee (f := 28) rfl ?_); refine goesL_ (some 34) rfl rfl Try.func28 (by kernel_rfl) rfl #[.pointer (some ⟨g, 0, none⟩), .slice Ao26 y261.length co26] rfl (by (try simp only [List.map_toArray, List.map_cons, List.map_nil]); first | done | rfl | (simp only [List.length_drop, List.length_take]; rfl)) ?_; (with_reducible refine (spec_l01Of.calls g s0_0 x1001_2 x1002_2 _ _ y261 t264 t265 t266 w0 _ ?side1 ?side2 ?side3 ?side4 ?side5 A16.out).mono ?_); (case side1 => repeat (first | (with_reducible first | exact HI0.out | apply IsS35.alloc | apply IsS35.drewN | apply IsS35.drew | apply IsS35.set_1 | apply IsS35.set_2) | exact HI0.out)); (case side2 => repeat (first | (with_reducible first | exact HB.out | apply below_alloc | apply pw_below_drewN | apply below_drew1 | refine below_set ?_ (IsS35.ge HI0.out)) | exact HB.out)); (case side3 => repeat (first | exact (Kd.R_reads' HO263.out).2.2 | (with_reducible refine Kd.C_alloc ?_ _) | (with_reducible refine Kd.C_drewN ?_ _) | (with_reducible refine Kd.C_drew ?_))); (case side4 => exact (Kd.R_reads' HO263.out).2.1); (case side5 => exact far_slice (IsS35.own_ne HI0.out HO263.out (by decide))); rintro e w27 ⟨rfl, hi, hb, hk⟩; refine ⟨_, rfl, ?_⟩; have n0_ := Aside0.mk (Kd.R_mono (Kd.R_keep (IsS35.apart (show IsS35 w0 _ g s0_0 x1001_2 x1002_2 from by repeat (first | (with_reducible first | exact HI0.out | apply IsS35.alloc | apply IsS35.drewN | apply IsS35.drew | apply IsS35.set_1 | apply IsS35.set_2) | exact HI0.out)) (by (with_reducible repeat (first | apply Kd.R_alloc | apply Kd.R_drewN | apply Kd.R_drew)); exact HO263.out) (by decide)) hk (fun _ h => h.2)) (fun _ h => h.1)); have n1_ := Aside0.mk (KeepBut.trans (by repeat (first | (with_reducible first | exact HK.out | apply KeepBut.set_ | apply keep_drewN | apply keep_drew | apply keep_alloc) | exact HK.out)) hk (.inl rfl)); have n2_ := Aside0.mk (hb); have n3_ := Aside0.mk (hi); clear HO263; clear HK; clear HB; clear HI0; have HO263 := n0_; have HK := n1_; have HB := n2_; have HI0 := n3_; clear n0_ n1_ n2_ n3_; (try clear hb); (try clear hb2); (try clear hk); (try clear hi)) | ((with_reducible refine gate_dst (N := 37) rfl ?_); refine Kd.R_lit Kd.string _ 9 ?hg (N := 37) ?hd (xs := ([(⟨#[97]⟩ : ByteArray), (⟨#[107, 101, 121]⟩ : ByteArray), (⟨#[39, 107, 39]⟩ : ByteArray), (⟨#[34, 107, 34]⟩ : ByteArray), (⟨#[42, 97]⟩ : ByteArray), (⟨#[120, 32, 121]⟩ : ByteArray)] : List ByteArray)) (inner := [.string (⟨#[97]⟩ : ByteArray), .string (⟨#[107, 101, 121]⟩ : ByteArray), .string (⟨#[39, 107, 39]⟩ : ByteArray), .string (⟨#[34, 107, 34]⟩ : ByteArray), .string (⟨#[42, 97]⟩ : ByteArray), .string (⟨#[120, 32, 121]⟩ : ByteArray)]) (ok := fun _ => True) (okp := fun _ => True) ?hr ?hp (fun _ hk => hk) trivial (Below.refl _ _) (Nat.le_refl _) (by simp) ?_; (case hd => rfl); (case hg => rfl); (case hr => first | (go_simp; done) | (go_simp; rfl)); (case hp => exact (Reps.one (show Kd.M Kd.string _ _ _ (⟨#[97]⟩ : ByteArray) [.string (⟨#[97]⟩ : ByteArray)] from rfl) (Reps.one (show Kd.M Kd.string _ _ _ (⟨#[107, 101, 121]⟩ : ByteArray) [.string (⟨#[107, 101, 121]⟩ : ByteArray)] from rfl) (Reps.one (show Kd.M Kd.string _ _ _ (⟨#[39, 107, 39]⟩ : ByteArray) [.string (⟨#[39, 107, 39]⟩ : ByteArray)] from rfl) (Reps.one (show Kd.M Kd.string _ _ _ (⟨#[34, 107, 34]⟩ : ByteArray) [.string (⟨#[34, 107, 34]⟩ : ByteArray)] from rfl) (Reps.one (show Kd.M Kd.string _ _ _ (⟨#[42, 97]⟩ : ByteArray) [.string (⟨#[42, 97]⟩ : ByteArray)] from rfl) (Reps.one (show Kd.M Kd.string _ _ _ (⟨#[120, 32, 121]⟩ : ByteArray) [.string (⟨#[120, 32, 121]⟩ : ByteArray)] from rfl) (Reps.none _ _)))))))); intro v268 w28 ho29 hb hg_ hnew_; clear hg_ hnew_; (first | rw [← Ny267.out] at ho29 | (simp only [Int.reduceToNat] at ho29; rw [← Ny267.out] at ho29)); have n0_ := Aside0.mk (Kd.R_elder' (by (with_reducible repeat (first | apply Kd.R_alloc | apply Kd.R_drewN | apply Kd.R_drew)); exact HO263.out) (Kd.R_base ho29) hb); have n1_ := Aside0.mk (Kd.R_lower (Kd.R_new' ho29 (Kd.R_lt (by (with_reducible repeat (first | apply Kd.R_alloc | apply Kd.R_drewN | apply Kd.R_drew)); exact HO263.out))) (keep_size (w := w) (g := g) (row := none) (by repeat (first | (with_reducible first | exact HK.out | apply KeepBut.set_ | apply keep_drewN | apply keep_drew | apply keep_alloc) | exact HK.out)))); have n2_ := Aside0.mk (IsS35.below (by repeat (first | (with_reducible first | exact HI0.out | apply IsS35.alloc | apply IsS35.drewN | apply IsS35.drew | apply IsS35.set_1 | apply IsS35.set_2) | exact HI0.out)) hb); have n3_ := Aside0.mk (KeepBut.trans (by repeat (first | (with_reducible first | exact HK.out | apply KeepBut.set_ | apply keep_drewN | apply keep_drew | apply keep_alloc) | exact HK.out)) (KeepBut.of_below hb g none) (.inl rfl)); have n4_ := Aside0.mk (below_step (by repeat (first | (with_reducible first | exact HB.out | apply below_alloc | apply pw_below_drewN | apply below_drew1 | refine below_set ?_ (IsS35.ge HI0.out)) | exact HB.out)) hb); clear HO263; clear HI0; clear HK; clear HB; have HO263 := n0_; have HO269 := n1_; have HI0 := n2_; have HK := n3_; have HB := n4_; clear n0_ n1_ n2_ n3_ n4_; clear hb ho29; obtain ⟨Ao30, co30, eo30⟩ := Kd.R_slice HO269.out; subst eo30) | ((with_reducible refine gate_callee (f := 28) rfl ?_); refine goesL_ (some 38) rfl rfl Try.func28 (by kernel_rfl) rfl #[.pointer (some ⟨g, 0, none⟩), .slice Ao30 y267.length co30] rfl (by (try simp only [List.map_toArray, List.map_cons, List.map_nil]); first | done | rfl | (simp only [List.length_drop, List.length_take]; rfl)) ?_; (with_reducible refine (spec_l01Of.calls g s0_0 t265 t266 _ _ y267 t270 t271 t272 w0 _ ?side1 ?side2 ?side3 ?side4 ?side5 A18.out).mono ?_); (case side1 => repeat (first | (with_reducible first | exact HI0.out | apply IsS35.alloc | apply IsS35.drewN | apply IsS35.drew | apply IsS35.set_1 | apply IsS35.set_2) | exact HI0.out)); (case side2 => repeat (first | (with_reducible first | exact HB.out | apply below_alloc | apply pw_below_drewN | apply below_drew1 | refine below_set ?_ (IsS35.ge HI0.out)) | exact HB.out)); (case side3 => repeat (first | exact (Kd.R_reads' HO269.out).2.2 | (with_reducible refine Kd.C_alloc ?_ _) | (with_reducible refine Kd.C_drewN ?_ _) | (with_reducible refine Kd.C_drew ?_))); (case side4 => exact (Kd.R_reads' HO269.out).2.1); (case side5 => exact far_slice (IsS35.own_ne HI0.out HO269.out (by decide))); rintro e w31 ⟨rfl, hi, hb, hk⟩; refine ⟨_, rfl, ?_⟩; have n0_ := Aside0.mk (Kd.R_mono (Kd.R_keep (IsS35.apart (show IsS35 w0 _ g s0_0 t265 t266 from by repeat (first | (with_reducible first | exact HI0.out | apply IsS35.alloc | apply IsS35.drewN | apply IsS35.drew | apply IsS35.set_1 | apply IsS35.set_2) | exact HI0.out)) (by (with_reducible repeat (first | apply Kd.R_alloc | apply Kd.R_drewN | apply Kd.R_drew)); exact HO263.out) (by decide)) hk (fun _ h => h.2)) (fun _ h => h.1)); have n1_ := Aside0.mk (Kd.R_mono (Kd.R_keep (IsS35.apart (show IsS35 w0 _ g s0_0 t265 t266 from by repeat (first | (with_reducible first | exact HI0.out | apply IsS35.alloc | apply IsS35.drewN | apply IsS35.drew | apply IsS35.set_1 | apply IsS35.set_2) | exact HI0.out)) (by (with_reducible repeat (first | apply Kd.R_alloc | apply Kd.R_drewN | apply Kd.R_drew)); exact HO269.out) (by decide)) hk (fun _ h => h.2)) (fun _ h => h.1)); have n2_ := Aside0.mk (KeepBut.trans (by repeat (first | (with_reducible first | exact HK.out | apply KeepBut.set_ | apply keep_drewN | apply keep_drew | apply keep_alloc) | exact HK.out)) hk (.inl rfl)); have n3_ := Aside0.mk (hb); have n4_ := Aside0.mk (hi); clear HO263; clear HO269; clear HK; clear HB; clear HI0; have HO263 := n0_; have HO269 := n1_; have HK := n2_; have HB := n3_; have HI0 := n4_; clear n0_ n1_ n2_ n3_ n4_; (try clear hb); (try clear hb2); (try clear hk); (try clear hi)) | ((with_reducible refine gate_dst (N := 41) rfl ?_); refine Kd.R_lit Kd.string _ 9 ?hg (N := 41) ?hd (xs := ([(⟨#[58]⟩ : ByteArray), (⟨#[58]⟩ : ByteArray), (⟨#[32, 58]⟩ : ByteArray)] : List ByteArray)) (inner := [.string (⟨#[58]⟩ : ByteArray), .string (⟨#[58]⟩ : ByteArray), .string (⟨#[32, 58]⟩ : ByteArray)]) (ok := fun _ => True) (okp := fun _ => True) ?hr ?hp (fun _ hk => hk) trivial (Below.refl _ _) (Nat.le_refl _) (by simp) ?_; (case hd => rfl); (case hg => rfl); (case hr => first | (go_simp; done) | (go_simp; rfl)); (case hp => exact (Reps.one (show Kd.M Kd.string _ _ _ (⟨#[58]⟩ : ByteArray) [.string (⟨#[58]⟩ : ByteArray)] from rfl) (Reps.one (show Kd.M Kd.string _ _ _ (⟨#[58]⟩ : ByteArray) [.string (⟨#[58]⟩ : ByteArray)] from rfl) (Reps.one (show Kd.M Kd.string _ _ _ (⟨#[32, 58]⟩ : ByteArray) [.string (⟨#[32, 58]⟩ : ByteArray)] from rfl) (Reps.none _ _))))); intro v274 w32 ho33 hb hg_ hnew_; clear hg_ hnew_; (first | rw [← Ny273.out] at ho33 | (simp only [Int.reduceToNat] at ho33; rw [← Ny273.out] at ho33)); have n0_ := Aside0.mk (Kd.R_elder' (by (with_reducible repeat (first | apply Kd.R_alloc | apply Kd.R_drewN | apply Kd.R_drew)); exact HO263.out) (Kd.R_base ho33) hb); have n1_ := Aside0.mk (Kd.R_elder' (by (with_reducible repeat (first | apply Kd.R_alloc | apply Kd.R_drewN | apply Kd.R_drew)); exact HO269.out) (Kd.R_base ho33) hb); have n2_ := Aside0.mk (Kd.R_lower (Kd.R_new' (Kd.R_new' ho33 (Kd.R_lt (by (with_reducible repeat (first | apply Kd.R_alloc | apply Kd.R_drewN | apply Kd.R_drew)); exact HO263.out))) (Kd.R_lt (by (with_reducible repeat (first | apply Kd.R_alloc | apply Kd.R_drewN | apply Kd.R_drew)); exact HO269.out))) (keep_size (w := w) (g := g) (row := none) (by repeat (first | (with_reducible first | exact HK.out | apply KeepBut.set_ | apply keep_drewN | apply keep_drew | apply keep_alloc) | exact HK.out)))); have n3_ := Aside0.mk (IsS35.below (by repeat (first | (with_reducible first | exact HI0.out | apply IsS35.alloc | apply IsS35.drewN | apply IsS35.drew | apply IsS35.set_1 | apply IsS35.set_2) | exact HI0.out)) hb); have n4_ := Aside0.mk (KeepBut.trans (by repeat (first | (with_reducible first | exact HK.out | apply KeepBut.set_ | apply keep_drewN | apply keep_drew | apply keep_alloc) | exact HK.out)) (KeepBut.of_below hb g none) (.inl rfl)); have n5_ := Aside0.mk (below_step (by repeat (first | (with_reducible first | exact HB.out | apply below_alloc | apply pw_below_drewN | apply below_drew1 | refine below_set ?_ (IsS35.ge HI0.out)) | exact HB.out)) hb); clear HO263; clear HO269; clear HI0; clear HK; clear HB; have HO263 := n0_; have HO269 := n1_; have HO275 := n2_; have HI0 := n3_; have HK := n4_; have HB := n5_; clear n0_ n1_ n2_ n3_ n4_ n5_; clear hb ho33; obtain ⟨Ao34, co34, eo34⟩ := Kd.R_slice HO275.out; subst eo34) | ((with_reducible refine gate_callee (f := 28) rfl ?_); refine goesL_ (some 42) rfl rfl Try.func28 (by kernel_rfl) rfl #[.pointer (some ⟨g, 0, none⟩), .slice Ao34 y273.length co34] rfl (by (try simp only [List.map_toArray, List.map_cons, List.map_nil]); first | done | rfl | (simp only [List.length_drop, List.length_take]; rfl)) ?_; (with_reducible refine (spec_l01Of.calls g s0_0 t271 t272 _ _ y273 t276 t277 t278 w0 _ ?side1 ?side2 ?side3 ?side4 ?side5 A20.out).mono ?_); (case side1 => repeat (first | (with_reducible first | exact HI0.out | apply IsS35.alloc | apply IsS35.drewN | apply IsS35.drew | apply IsS35.set_1 | apply IsS35.set_2) | exact HI0.out)); (case side2 => repeat (first | (with_reducible first | exact HB.out | apply below_alloc | apply pw_below_drewN | apply below_drew1 | refine below_set ?_ (IsS35.ge HI0.out)) | exact HB.out)); (case side3 => repeat (first | exact (Kd.R_reads' HO275.out).2.2 | (with_reducible refine Kd.C_alloc ?_ _) | (with_reducible refine Kd.C_drewN ?_ _) | (with_reducible refine Kd.C_drew ?_))); (case side4 => exact (Kd.R_reads' HO275.out).2.1); (case side5 => exact far_slice (IsS35.own_ne HI0.out HO275.out (by decide))); rintro e w35 ⟨rfl, hi, hb, hk⟩; refine ⟨_, rfl, ?_⟩; have n0_ := Aside0.mk (Kd.R_mono (Kd.R_keep (IsS35.apart (show IsS35 w0 _ g s0_0 t271 t272 from by repeat (first | (with_reducible first | exact HI0.out | apply IsS35.alloc | apply IsS35.drewN | apply IsS35.drew | apply IsS35.set_1 | apply IsS35.set_2) | exact HI0.out)) (by (with_reducible repeat (first | apply Kd.R_alloc | apply Kd.R_drewN | apply Kd.R_drew)); exact HO263.out) (by decide)) hk (fun _ h => h.2)) (fun _ h => h.1)); have n1_ := Aside0.mk (Kd.R_mono (Kd.R_keep (IsS35.apart (show IsS35 w0 _ g s0_0 t271 t272 from by repeat (first | (with_reducible first | exact HI0.out | apply IsS35.alloc | apply IsS35.drewN | apply IsS35.drew | apply IsS35.set_1 | apply IsS35.set_2) | exact HI0.out)) (by (with_reducible repeat (first | apply Kd.R_alloc | apply Kd.R_drewN | apply Kd.R_drew)); exact HO269.out) (by decide)) hk (fun _ h => h.2)) (fun _ h => h.1)); have n2_ := Aside0.mk (Kd.R_mono (Kd.R_keep (IsS35.apart (show IsS35 w0 _ g s0_0 t271 t272 from by repeat (first | (with_reducible first | exact HI0.out | apply IsS35.alloc | apply IsS35.drewN | apply IsS35.drew | apply IsS35.set_1 | apply IsS35.set_2) | exact HI0.out)) (by (with_reducible repeat (first | apply Kd.R_alloc | apply Kd.R_drewN | apply Kd.R_drew)); exact HO275.out) (by decide)) hk (fun _ h => h.2)) (fun _ h => h.1)); have n3_ := Aside0.mk (KeepBut.trans (by repeat (first | (with_reducible first | exact HK.out | apply KeepBut.set_ | apply keep_drewN | apply keep_drew | apply keep_alloc) | exact HK.out)) hk (.inl rfl)); have n4_ := Aside0.mk (hb); have n5_ := Aside0.mk (hi); clear HO263; clear HO269; clear HO275; clear HK; clear HB; clear HI0; have HO263 := n0_; have HO269 := n1_; have HO275 := n2_; have HK := n3_; have HB := n4_; have HI0 := n5_; clear n0_ n1_ n2_ n3_ n4_ n5_; (try clear hb); (try clear hb2); (try clear hk); (try clear hi)) | ((with_reducible refine gate_callee (f := 36) rfl ?_); refine goesL_ (some 48) rfl rfl Try.func36 (by kernel_rfl) rfl #[.pointer (some ⟨g, 0, none⟩), .int .i64 a1, .int .i64 a2] rfl (by (try simp only [List.map_toArray, List.map_cons, List.map_nil]); first | done | rfl | (simp only [List.length_drop, List.length_take]; rfl)) ?_; (with_reducible refine (spec_l11Value0.calls_of kj11 (ih kj11 (by (try have := HJ4.out); (try have := HK2.out); (try have := HJ11.out); omega)) g s0_0 t277 t278 a1 a2 t279 t280 t281 w0 _ ?side1 ?side2 A22.out).mono ?_); (case side1 => repeat (first | (with_reducible first | exact HI0.out | apply IsS35.alloc | apply IsS35.drewN | apply IsS35.drew | apply IsS35.set_1 | apply IsS35.set_2) | exact HI0.out)); (case side2 => repeat (first | (with_reducible first | exact HB.out | apply below_alloc | apply pw_below_drewN | apply below_drew1 | refine below_set ?_ (IsS35.ge HI0.out)) | exact HB.out)); rintro e w36 ⟨rfl, hi, hb, hk⟩; refine ⟨_, rfl, ?_⟩; have n0_ := Aside0.mk (Kd.R_mono (Kd.R_keep (IsS35.apart (show IsS35 w0 _ g s0_0 t277 t278 from by repeat (first | (with_reducible first | exact HI0.out | apply IsS35.alloc | apply IsS35.drewN | apply IsS35.drew | apply IsS35.set_1 | apply IsS35.set_2) | exact HI0.out)) (by (with_reducible repeat (first | apply Kd.R_alloc | apply Kd.R_drewN | apply Kd.R_drew)); exact HO263.out) (by decide)) hk (fun _ h => h.2)) (fun _ h => h.1)); have n1_ := Aside0.mk (Kd.R_mono (Kd.R_keep (IsS35.apart (show IsS35 w0 _ g s0_0 t277 t278 from by repeat (first | (with_reducible first | exact HI0.out | apply IsS35.alloc | apply IsS35.drewN | apply IsS35.drew | apply IsS35.set_1 | apply IsS35.set_2) | exact HI0.out)) (by (with_reducible repeat (first | apply Kd.R_alloc | apply Kd.R_drewN | apply Kd.R_drew)); exact HO269.out) (by decide)) hk (fun _ h => h.2)) (fun _ h => h.1)); have n2_ := Aside0.mk (Kd.R_mono (Kd.R_keep (IsS35.apart (show IsS35 w0 _ g s0_0 t277 t278 from by repeat (first | (with_reducible first | exact HI0.out | apply IsS35.alloc | apply IsS35.drewN | apply IsS35.drew | apply IsS35.set_1 | apply IsS35.set_2) | exact HI0.out)) (by (with_reducible repeat (first | apply Kd.R_alloc | apply Kd.R_drewN | apply Kd.R_drew)); exact HO275.out) (by decide)) hk (fun _ h => h.2)) (fun _ h => h.1)); have n3_ := Aside0.mk (KeepBut.trans (by repeat (first | (with_reducible first | exact HK.out | apply KeepBut.set_ | apply keep_drewN | apply keep_drew | apply keep_alloc) | exact HK.out)) hk (.inl rfl)); have n4_ := Aside0.mk (hb); have n5_ := Aside0.mk (hi); clear HO263; clear HO269; clear HO275; clear HK; clear HB; clear HI0; have HO263 := n0_; have HO269 := n1_; have HO275 := n2_; have HK := n3_; have HB := n4_; have HI0 := n5_; clear n0_ n1_ n2_ n3_ n4_ n5_; (try clear hb); (try clear hb2); (try clear hk); (try clear hi)))
                          go_roundg kj11
                          case measure => have := HJ4.out; have := HK2.out; have := HJ11.out; omega
                          case rel => exact ⟨((((x8_11 ++ t264) ++ t270) ++ t276) ++ t279), (wrap64 (x9_2 - 1)), (t280), (t281), (by first | rfl | (simp; done) | (simp [*]; done)), (by first | rfl | (simp; done) | (simp [*]; done)), H', ⟨by have := HJ4.out; have := HK2.out; have := HJ11.out; omega⟩, ⟨by repeat (first | (with_reducible first | exact HI0.out | apply IsS35.alloc | apply IsS35.drewN | apply IsS35.drew | apply IsS35.set_1 | apply IsS35.set_2) | exact HI0.out)⟩, ⟨by repeat (first | (with_reducible first | exact HK.out | apply KeepBut.set_ | apply keep_drewN | apply keep_drew | apply keep_alloc) | exact HK.out)⟩, ⟨by repeat (first | (with_reducible first | exact HB.out | apply below_alloc | apply pw_below_drewN | apply below_drew1 | refine below_set ?_ (IsS35.ge HI0.out)) | exact HB.out)⟩⟩
                        · rw [if_neg c23] at H
                          exact absurd H (by simp)
                      · rw [if_neg c21] at H
                        exact absurd H (by simp)
                    · rw [if_neg c19] at H
                      exact absurd H (by simp)
                  · rw [if_neg c17] at H
                    exact absurd H (by simp)
            · rw [if_neg c11] at H
              have c11b0 : decide (0 < x9_2) = false := decide_eq_false c11
              clear c11
              simp only [Option.some.injEq, Prod.mk.injEq] at H
              obtain ⟨rfl, rfl, rfl⟩ := H
              go_wp2
              go_ret
              exact ⟨by first | rfl | (simp [errW_none, errW_some] <;> rfl) | (simp [*, errW_none, errW_some] <;> rfl), by repeat (first | (with_reducible first | exact HI0.out | apply IsS35.alloc | apply IsS35.drewN | apply IsS35.drew | apply IsS35.set_1 | apply IsS35.set_2) | exact HI0.out), by repeat (first | (with_reducible first | exact HB.out | apply below_alloc | apply pw_below_drewN | apply below_drew1 | refine below_set ?_ (IsS35.ge HI0.out)) | exact HB.out), by repeat (first | (with_reducible first | exact HK.out | apply KeepBut.set_ | apply keep_drewN | apply keep_drew | apply keep_alloc) | exact HK.out)⟩
      · rw [if_neg c8] at H
        have c8b0 : decide (x7_4 < 4) = false := decide_eq_false c8
        clear c8
        by_cases c37 : x7_4 < 7
        · rw [if_pos c37] at H
          have c37b0 : decide (x7_4 < 7) = true := decide_eq_true c37
          clear c37
          replace H := Option.bind_eq_some_iff.mp H
          obtain ⟨⟨t282, t283, t284⟩, A380, H⟩ := H
          replace H : (spec_l11Draw.l1 kj4 a1 a2 (⟨#[]⟩ : ByteArray) (wrap64 (1 + t282)) s0_0 t283 t284) = some (r1, r2, r3) := H
          have A38 := Aside0.mk A380
          clear A380
          have H' := Aside0.mk H
          clear H
          go_wp2_with (first | ((with_reducible refine gate_callee (f := 16) rfl ?_); refine goesL_ (some 55) rfl rfl Try.func16 (by kernel_rfl) rfl #[.pointer (some ⟨g, 0, none⟩), .int .i64 3] rfl (by (try simp only [List.map_toArray, List.map_cons, List.map_nil]); first | done | rfl | (simp only [List.length_drop, List.length_take]; rfl)) ?_; (with_reducible refine (spec_l01Below.calls g s0_0 t255 t256 3 t282 t283 t284 w0 _ ?side1 ?side2 A38.out).mono ?_); (case side1 => repeat (first | (with_reducible first | exact HI0.out | apply IsS35.alloc | apply IsS35.drewN | apply IsS35.drew | apply IsS35.set_1 | apply IsS35.set_2) | exact HI0.out)); (case side2 => repeat (first | (with_reducible first | exact HB.out | apply below_alloc | apply pw_below_drewN | apply below_drew1 | refine below_set ?_ (IsS35.ge HI0.out)) | exact HB.out)); rintro e w39 ⟨rfl, hi, hb, hk⟩; refine ⟨_, rfl, ?_⟩; have n0_ := Aside0.mk (KeepBut.trans (by repeat (first | (with_reducible first | exact HK.out | apply KeepBut.set_ | apply keep_drewN | apply keep_drew | apply keep_alloc) | exact HK.out)) hk (.inl rfl)); have n1_ := Aside0.mk (hb); have n2_ := Aside0.mk (hi); clear HK; clear HB; clear HI0; have HK := n0_; have HB := n1_; have HI0 := n2_; clear n0_ n1_ n2_; (try clear hb); (try clear hb2); (try clear hk); (try clear hi)))
          go_loopg [8, 10] kj4 (fun kq v8 v10 w' => ∃ (x8_2 : ByteArray) (x10_2 : Int) (x1001_2 : Int) (x1002_2 : Int), v8 = .string x8_2 ∧ v10 = .int .i64 x10_2 ∧ Aside0 (spec_l11Draw.l1 kq a1 a2 x8_2 x10_2 s0_0 x1001_2 x1002_2 = some (r1, r2, r3)) ∧ Aside0 (kq ≤ kj4) ∧ Aside0 (IsS35 w0 w' g s0_0 x1001_2 x1002_2) ∧ Aside0 (KeepBut w w' g none) ∧ Aside0 (Below w0.heap.size w0 w'))
          case atStart => exact ⟨((⟨#[]⟩ : ByteArray)), (wrap64 (1 + t282)), (t283), (t284), (by first | rfl | (simp; done) | (simp [*]; done)), (by first | rfl | (simp; done) | (simp [*]; done)), H', ⟨Nat.le_refl _⟩, ⟨by repeat (first | (with_reducible first | exact HI0.out | apply IsS35.alloc | apply IsS35.drewN | apply IsS35.drew | apply IsS35.set_1 | apply IsS35.set_2) | exact HI0.out)⟩, ⟨by repeat (first | (with_reducible first | exact HK.out | apply KeepBut.set_ | apply keep_drewN | apply keep_drew | apply keep_alloc) | exact HK.out)⟩, ⟨by repeat (first | (with_reducible first | exact HB.out | apply below_alloc | apply pw_below_drewN | apply below_drew1 | refine below_set ?_ (IsS35.ge HI0.out)) | exact HB.out)⟩⟩
          case round =>
            clear H'
            try clear c1
            try clear c2
            try clear p2
            try clear c3
            try clear p6
            try clear c7
            try clear c7b0
            try clear c8
            try clear c8b0
            try clear c11
            try clear c11b0
            try clear c13
            try clear c13b0
            try clear c13b1
            try clear c15
            try clear c15b0
            try clear c15b1
            try clear c15b2
            try clear c16
            try clear c17
            try clear c17b0
            try clear c17b1
            try clear c17b2
            try clear c19
            try clear c19b0
            try clear c19b1
            try clear c19b2
            try clear c21
            try clear c21b0
            try clear c21b1
            try clear c21b2
            try clear c23
            try clear c23b0
            try clear c23b1
            try clear c23b2
            try clear c28
            try clear c31
            try clear c35
            try clear c36
            try clear c37
            try clear c37b0
            try clear p2
            try clear p6
            obtain ⟨x8_2, x10_2, x1001_2, x1002_2, rfl, rfl, HA, HK2, HI0, HK, HB⟩ := hrel
            cases gk with
            | zero => exact absurd HA.out (by simp [spec_l11Draw.l1])
            | succ k2 =>
              have H := HA.out
              clear HA
              simp only [spec_l11Draw.l1] at H
              by_cases c40 : x10_2 > 0
              · rw [if_pos c40] at H
                have c40b0 : decide (0 < x10_2) = true := decide_eq_true c40
                clear c40
                have HC41 := Aside0.mk H
                clear H
                go_upto_if 62 with (fail)
                go_cut [8] (fun v8 wc => ∃ (kq : Nat) (x8_40 : ByteArray), v8 = .string x8_40 ∧ Aside0 (spec_l11Draw.j4 kq a1 a2 x8_40 x10_2 s0_0 x1001_2 x1002_2 = some (r1, r2, r3)) ∧ Aside0 (kq ≤ k2) ∧ Aside0 (IsS35 w0 wc g s0_0 x1001_2 x1002_2) ∧ Aside0 (KeepBut w wc g none) ∧ Aside0 (Below w0.heap.size w0 wc))
                case first =>
                  have H := HC41.out
                  clear HC41
                  by_cases c42 : x8_2.toList = ([] : List UInt8)
                  · rw [if_pos c42] at H
                    have c42b14 : x8_2.toList.isEmpty = true := by rw [c42]; rfl
                    try rw [c42b14]
                    have c42b0 : (x8_2.toList == ([] : List UInt8)) = true := beq_iff_eq.mpr c42
                    have c42b1 : (x8_2.toList != ([] : List UInt8)) = false := bne_eq_false_iff_eq.mpr c42
                    clear c42
                    (first | rw [c42b0] | (simp only [i64_w, i32_w]; rw [c42b0]) | skip)
                    have H' := Aside0.mk H
                    clear H
                    go_wp2
                    go_meet
                    case rel => exact ⟨_, (x8_2), (by first | rfl | (simp; done) | (simp [*]; done)), H', ⟨by have := HJ4.out; have := HK2.out; first | omega | exact Nat.le_refl _⟩, ⟨by repeat (first | (with_reducible first | exact HI0.out | apply IsS35.alloc | apply IsS35.drewN | apply IsS35.drew | apply IsS35.set_1 | apply IsS35.set_2) | exact HI0.out)⟩, ⟨by repeat (first | (with_reducible first | exact HK.out | apply KeepBut.set_ | apply keep_drewN | apply keep_drew | apply keep_alloc) | exact HK.out)⟩, ⟨by repeat (first | (with_reducible first | exact HB.out | apply below_alloc | apply pw_below_drewN | apply below_drew1 | refine below_set ?_ (IsS35.ge HI0.out)) | exact HB.out)⟩⟩
                  · rw [if_neg c42] at H
                    have c42b14 : x8_2.toList.isEmpty = false := by simpa using c42
                    try rw [c42b14]
                    have c42b0 : (x8_2.toList == ([] : List UInt8)) = false := beq_eq_false_iff_ne.mpr c42
                    have c42b1 : (x8_2.toList != ([] : List UInt8)) = true := bne_iff_ne.mpr c42
                    (first | rw [c42b0] | (simp only [i64_w, i32_w]; rw [c42b0]) | skip)
                    replace H := Option.bind_eq_some_iff.mp H
                    obtain ⟨t285, A430, H⟩ := H
                    replace H : (if x8_2.size + t285.size ≤ 9223372036854775807 then (spec_l11Draw.j4 k2 a1 a2 (x8_2 ++ t285) x10_2 s0_0 x1001_2 x1002_2) else (none)) = some (r1, r2, r3) := H
                    have A43 := Aside0.mk A430
                    clear A430
                    by_cases c44 : x8_2.size + t285.size ≤ 9223372036854775807
                    · rw [if_pos c44] at H
                      have c44b0 := eq_true c44
                      have c44b1 : decide (x8_2.size + t285.size ≤ 9223372036854775807) = true := decide_eq_true c44
                      try have c44b2 : (9223372036854775807 < x8_2.size + t285.size) = False := eq_false (Nat.not_lt.2 c44)
                      try (have c44b4 := c44b2; simp only [ByteArray.size_extract, Nat.min_self] at c44b4)
                      have H' := Aside0.mk H
                      clear H
                      go_wp2_with (first | ((with_reducible refine gate_callee (f := 35) rfl ?_); refine goesL_ (some 65) rfl rfl Try.func35 (by kernel_rfl) rfl #[.int .i64 a1] rfl (by (try simp only [List.map_toArray, List.map_cons, List.map_nil]); first | done | rfl | (simp only [List.length_drop, List.length_take]; rfl)) ?_; (with_reducible refine (spec_l11Pad.calls k2 a1 t285 _ A43.out).mono ?_); rintro e w' ⟨rfl, ⟨nd, rfl⟩⟩; refine ⟨_, rfl, ?_⟩))
                      go_meet
                      case rel => exact ⟨_, (x8_2 ++ t285), (by first | rfl | (simp; done) | (simp [*]; done)), H', ⟨by have := HJ4.out; have := HK2.out; first | omega | exact Nat.le_refl _⟩, ⟨by repeat (first | (with_reducible first | exact HI0.out | apply IsS35.alloc | apply IsS35.drewN | apply IsS35.drew | apply IsS35.set_1 | apply IsS35.set_2) | exact HI0.out)⟩, ⟨by repeat (first | (with_reducible first | exact HK.out | apply KeepBut.set_ | apply keep_drewN | apply keep_drew | apply keep_alloc) | exact HK.out)⟩, ⟨by repeat (first | (with_reducible first | exact HB.out | apply below_alloc | apply pw_below_drewN | apply below_drew1 | refine below_set ?_ (IsS35.ge HI0.out)) | exact HB.out)⟩⟩
                    · rw [if_neg c44] at H
                      exact absurd H (by simp)
                case rest =>
                  clear HC41
                  try clear c1
                  try clear c2
                  try clear p2
                  try clear c3
                  try clear c4
                  try clear p6
                  try clear c7
                  try clear c7b0
                  try clear c8
                  try clear c8b0
                  try clear c11
                  try clear c11b0
                  try clear c13
                  try clear c13b0
                  try clear c13b1
                  try clear c15
                  try clear c15b0
                  try clear c15b1
                  try clear c15b2
                  try clear c16
                  try clear c17
                  try clear c17b0
                  try clear c17b1
                  try clear c17b2
                  try clear c19
                  try clear c19b0
                  try clear c19b1
                  try clear c19b2
                  try clear c21
                  try clear c21b0
                  try clear c21b1
                  try clear c21b2
                  try clear c23
                  try clear c23b0
                  try clear c23b1
                  try clear c23b2
                  try clear c28
                  try clear c31
                  try clear c35
                  try clear c36
                  try clear c37
                  try clear c37b0
                  try clear c40
                  try clear c40b0
                  try clear c42
                  try clear c42b0
                  try clear c42b1
                  try clear c44
                  try clear c44b0
                  try clear c44b1
                  try clear c44b2
                  try clear p2
                  try clear p6
                  obtain ⟨kq, x8_40, rfl, HA, HJ40, HI0, HK, HB⟩ := hcut
                  cases kq with
                  | zero => exact absurd HA.out (by simp [spec_l11Draw.j4])
                  | succ kj40 =>
                    have H := HA.out
                    clear HA
                    simp only [spec_l11Draw.j4] at H
                    by_cases c45 : x8_40.size + 1 ≤ 9223372036854775807
                    · rw [if_pos c45] at H
                      have c45b0 := eq_true c45
                      have c45b1 : decide (x8_40.size + 1 ≤ 9223372036854775807) = true := decide_eq_true c45
                      try have c45b2 : (9223372036854775807 < x8_40.size + 1) = False := eq_false (Nat.not_lt.2 c45)
                      try (have c45b4 := c45b2; simp only [ByteArray.size_extract, Nat.min_self] at c45b4)
                      obtain ⟨y286, hy286⟩ : ∃ y_ : List ByteArray, y_ = (([(⟨#[32]⟩ : ByteArray), (⟨#[32]⟩ : ByteArray), (⟨#[32]⟩ : ByteArray), (⟨#[32, 32]⟩ : ByteArray)] : List ByteArray)) := ⟨_, rfl⟩
                      replace H : ((spec_l01Of.f s0_0 x1001_2 x1002_2 y286).bind fun bt289 => (if (x8_40 ++ (⟨#[45]⟩ : ByteArray)).size + bt289.1.size ≤ 9223372036854775807 then ((spec_l01Below.f s0_0 bt289.2.1 bt289.2.2 2).bind fun bt292 => (if bt292.1 = 0 then ((spec_l11Draw.f kj40 s0_0 bt292.2.1 bt292.2.2 (wrap64 (a1 + 2)) (wrap64 (a2 - 1))).bind fun bt295 => (if ((x8_40 ++ (⟨#[45]⟩ : ByteArray)) ++ bt289.1).size + bt295.1.size ≤ 9223372036854775807 then (spec_l11Draw.l1 kj40 a1 a2 (((x8_40 ++ (⟨#[45]⟩ : ByteArray)) ++ bt289.1) ++ bt295.1) (wrap64 (x10_2 - 1)) s0_0 bt295.2.1 bt295.2.2) else (none))) else ((spec_l11Leaf.f kj40 s0_0 bt292.2.1 bt292.2.2).bind fun bt298 => (if ((x8_40 ++ (⟨#[45]⟩ : ByteArray)) ++ bt289.1).size + bt298.1.size ≤ 9223372036854775807 then ((spec_l01Of.f s0_0 bt298.2.1 bt298.2.2 (([(⟨#[10]⟩ : ByteArray), (⟨#[10]⟩ : ByteArray), (⟨#[32, 35, 32, 114, 10]⟩ : ByteArray)] : List ByteArray))).bind fun bt304 => (if (((x8_40 ++ (⟨#[45]⟩ : ByteArray)) ++ bt289.1) ++ bt298.1).size + bt304.1.size ≤ 9223372036854775807 then (spec_l11Draw.l1 kj40 a1 a2 ((((x8_40 ++ (⟨#[45]⟩ : ByteArray)) ++ bt289.1) ++ bt298.1) ++ bt304.1) (wrap64 (x10_2 - 1)) s0_0 bt304.2.1 bt304.2.2) else (none))) else (none))))) else (none))) = some (r1, r2, r3) := by first | (rw [hy286]; with_reducible exact H) | (have H2_ := (Option.bind_some _ _).symm.trans H; rw [hy286]; with_reducible exact H2_) | (have H2_ := (Option.bind_some _ _).symm.trans H; with_reducible exact H2_) | with_reducible exact H | (rw [hy286]; exact H) | exact H
                      have Ny286 := Aside0.mk hy286
                      clear hy286
                      replace H := Option.bind_eq_some_iff.mp H
                      obtain ⟨⟨t289, t290, t291⟩, A460, H⟩ := H
                      replace H : (if (x8_40 ++ (⟨#[45]⟩ : ByteArray)).size + t289.size ≤ 9223372036854775807 then ((spec_l01Below.f s0_0 t290 t291 2).bind fun bt292 => (if bt292.1 = 0 then ((spec_l11Draw.f kj40 s0_0 bt292.2.1 bt292.2.2 (wrap64 (a1 + 2)) (wrap64 (a2 - 1))).bind fun bt295 => (if ((x8_40 ++ (⟨#[45]⟩ : ByteArray)) ++ t289).size + bt295.1.size ≤ 9223372036854775807 then (spec_l11Draw.l1 kj40 a1 a2 (((x8_40 ++ (⟨#[45]⟩ : ByteArray)) ++ t289) ++ bt295.1) (wrap64 (x10_2 - 1)) s0_0 bt295.2.1 bt295.2.2) else (none))) else ((spec_l11Leaf.f kj40 s0_0 bt292.2.1 bt292.2.2).bind fun bt298 => (if ((x8_40 ++ (⟨#[45]⟩ : ByteArray)) ++ t289).size + bt298.1.size ≤ 9223372036854775807 then ((spec_l01Of.f s0_0 bt298.2.1 bt298.2.2 (([(⟨#[10]⟩ : ByteArray), (⟨#[10]⟩ : ByteArray), (⟨#[32, 35, 32, 114, 10]⟩ : ByteArray)] : List ByteArray))).bind fun bt304 => (if (((x8_40 ++ (⟨#[45]⟩ : ByteArray)) ++ t289) ++ bt298.1).size + bt304.1.size ≤ 9223372036854775807 then (spec_l11Draw.l1 kj40 a1 a2 ((((x8_40 ++ (⟨#[45]⟩ : ByteArray)) ++ t289) ++ bt298.1) ++ bt304.1) (wrap64 (x10_2 - 1)) s0_0 bt304.2.1 bt304.2.2) else (none))) else (none))))) else (none)) = some (r1, r2, r3) := H
                      have A46 := Aside0.mk A460
                      clear A460
                      by_cases c47 : (x8_40 ++ (⟨#[45]⟩ : ByteArray)).size + t289.size ≤ 9223372036854775807
                      · rw [if_pos c47] at H
                        have c47b0 := eq_true c47
                        have c47b1 : decide ((x8_40 ++ (⟨#[45]⟩ : ByteArray)).size + t289.size ≤ 9223372036854775807) = true := decide_eq_true c47
                        try have c47b2 : (9223372036854775807 < (x8_40 ++ (⟨#[45]⟩ : ByteArray)).size + t289.size) = False := eq_false (Nat.not_lt.2 c47)
                        try have c47b5 : (9223372036854775807 < x8_40.size + 1 + t289.size) = False := by (have q := c47b2; simp only [ByteArray.size_append] at q; exact q)
                        try (have c47b4 := c47b2; simp only [ByteArray.size_extract, Nat.min_self] at c47b4)
                        replace H := Option.bind_eq_some_iff.mp H
                        obtain ⟨⟨t292, t293, t294⟩, A480, H⟩ := H
                        replace H : (if t292 = 0 then ((spec_l11Draw.f kj40 s0_0 t293 t294 (wrap64 (a1 + 2)) (wrap64 (a2 - 1))).bind fun bt295 => (if ((x8_40 ++ (⟨#[45]⟩ : ByteArray)) ++ t289).size + bt295.1.size ≤ 9223372036854775807 then (spec_l11Draw.l1 kj40 a1 a2 (((x8_40 ++ (⟨#[45]⟩ : ByteArray)) ++ t289) ++ bt295.1) (wrap64 (x10_2 - 1)) s0_0 bt295.2.1 bt295.2.2) else (none))) else ((spec_l11Leaf.f kj40 s0_0 t293 t294).bind fun bt298 => (if ((x8_40 ++ (⟨#[45]⟩ : ByteArray)) ++ t289).size + bt298.1.size ≤ 9223372036854775807 then ((spec_l01Of.f s0_0 bt298.2.1 bt298.2.2 (([(⟨#[10]⟩ : ByteArray), (⟨#[10]⟩ : ByteArray), (⟨#[32, 35, 32, 114, 10]⟩ : ByteArray)] : List ByteArray))).bind fun bt304 => (if (((x8_40 ++ (⟨#[45]⟩ : ByteArray)) ++ t289) ++ bt298.1).size + bt304.1.size ≤ 9223372036854775807 then (spec_l11Draw.l1 kj40 a1 a2 ((((x8_40 ++ (⟨#[45]⟩ : ByteArray)) ++ t289) ++ bt298.1) ++ bt304.1) (wrap64 (x10_2 - 1)) s0_0 bt304.2.1 bt304.2.2) else (none))) else (none)))) = some (r1, r2, r3) := H
                        have A48 := Aside0.mk A480
                        clear A480
                        by_cases c49 : t292 = 0
                        · rw [if_pos c49] at H
                          have c49b0 : (t292 == 0) = true := beq_iff_eq.mpr c49
                          have c49b1 : (t292 != 0) = false := bne_eq_false_iff_eq.mpr c49
                          clear c49
                          replace H := Option.bind_eq_some_iff.mp H
                          obtain ⟨⟨t295, t296, t297⟩, A500, H⟩ := H
                          replace H : (if ((x8_40 ++ (⟨#[45]⟩ : ByteArray)) ++ t289).size + t295.size ≤ 9223372036854775807 then (spec_l11Draw.l1 kj40 a1 a2 (((x8_40 ++ (⟨#[45]⟩ : ByteArray)) ++ t289) ++ t295) (wrap64 (x10_2 - 1)) s0_0 t296 t297) else (none)) = some (r1, r2, r3) := H
                          have A50 := Aside0.mk A500
                          clear A500
                          by_cases c51 : ((x8_40 ++ (⟨#[45]⟩ : ByteArray)) ++ t289).size + t295.size ≤ 9223372036854775807
                          · rw [if_pos c51] at H
                            have c51b0 := eq_true c51
                            have c51b1 : decide (((x8_40 ++ (⟨#[45]⟩ : ByteArray)) ++ t289).size + t295.size ≤ 9223372036854775807) = true := decide_eq_true c51
                            try have c51b2 : (9223372036854775807 < ((x8_40 ++ (⟨#[45]⟩ : ByteArray)) ++ t289).size + t295.size) = False := eq_false (Nat.not_lt.2 c51)
                            try have c51b5 : (9223372036854775807 < x8_40.size + 1 + t289.size + t295.size) = False := by (have q := c51b2; simp only [ByteArray.size_append] at q; exact q)
                            try (have c51b4 := c51b2; simp only [ByteArray.size_extract, Nat.min_self] at c51b4)
                            have H' := Aside0.mk H
                            clear H
                            go_wp2_with (first | ((with_reducible refine gate_dst (N := 70) rfl ?_); refine Kd.R_lit Kd.string _ 9 ?hg (N := 70) ?hd (xs := ([(⟨#[32]⟩ : ByteArray), (⟨#[32]⟩ : ByteArray), (⟨#[32]⟩ : ByteArray), (⟨#[32, 32]⟩ : ByteArray)] : List ByteArray)) (inner := [.string (⟨#[32]⟩ : ByteArray), .string (⟨#[32]⟩ : ByteArray), .string (⟨#[32]⟩ : ByteArray), .string (⟨#[32, 32]⟩ : ByteArray)]) (ok := fun _ => True) (okp := fun _ => True) ?hr ?hp (fun _ hk => hk) trivial (Below.refl _ _) (Nat.le_refl _) (by simp) ?_; (case hd => rfl); (case hg => rfl); (case hr => first | (go_simp; done) | (go_simp; rfl)); (case hp => exact (Reps.one (show Kd.M Kd.string _ _ _ (⟨#[32]⟩ : ByteArray) [.string (⟨#[32]⟩ : ByteArray)] from rfl) (Reps.one (show Kd.M Kd.string _ _ _ (⟨#[32]⟩ : ByteArray) [.string (⟨#[32]⟩ : ByteArray)] from rfl) (Reps.one (show Kd.M Kd.string _ _ _ (⟨#[32]⟩ : ByteArray) [.string (⟨#[32]⟩ : ByteArray)] from rfl) (Reps.one (show Kd.M Kd.string _ _ _ (⟨#[32, 32]⟩ : ByteArray) [.string (⟨#[32, 32]⟩ : ByteArray)] from rfl) (Reps.none _ _)))))); intro v287 w52 ho53 hb hg_ hnew_; clear hg_ hnew_; (first | rw [← Ny286.out] at ho53 | (simp only [Int.reduceToNat] at ho53; rw [← Ny286.out] at ho53)); have n0_ := Aside0.mk (Kd.R_lower ho53 (keep_size (w := w) (g := g) (row := none) (by repeat (first | (with_reducible first | exact HK.out | apply KeepBut.set_ | apply keep_drewN | apply keep_drew | apply keep_alloc) | exact HK.out)))); have n1_ := Aside0.mk (IsS35.below (by repeat (first | (with_reducible first | exact HI0.out | apply IsS35.alloc | apply IsS35.drewN | apply IsS35.drew | apply IsS35.set_1 | apply IsS35.set_2) | exact HI0.out)) hb); have n2_ := Aside0.mk (KeepBut.trans (by repeat (first | (with_reducible first | exact HK.out | apply KeepBut.set_ | apply keep_drewN | apply keep_drew | apply keep_alloc) | exact HK.out)) (KeepBut.of_below hb g none) (.inl rfl)); have n3_ := Aside0.mk (below_step (by repeat (first | (with_reducible first | exact HB.out | apply below_alloc | apply pw_below_drewN | apply below_drew1 | refine below_set ?_ (IsS35.ge HI0.out)) | exact HB.out)) hb); clear HI0; clear HK; clear HB; have HO288 := n0_; have HI0 := n1_; have HK := n2_; have HB := n3_; clear n0_ n1_ n2_ n3_; clear hb ho53; obtain ⟨Ao54, co54, eo54⟩ := Kd.R_slice HO288.out; subst eo54) | ((with_reducible refine gate_callee (f := 28) rfl ?_); refine goesL_ (some 71) rfl rfl Try.func28 (by kernel_rfl) rfl #[.pointer (some ⟨g, 0, none⟩), .slice Ao54 y286.length co54] rfl (by (try simp only [List.map_toArray, List.map_cons, List.map_nil]); first | done | rfl | (simp only [List.length_drop, List.length_take]; rfl)) ?_; (with_reducible refine (spec_l01Of.calls g s0_0 x1001_2 x1002_2 _ _ y286 t289 t290 t291 w0 _ ?side1 ?side2 ?side3 ?side4 ?side5 A46.out).mono ?_); (case side1 => repeat (first | (with_reducible first | exact HI0.out | apply IsS35.alloc | apply IsS35.drewN | apply IsS35.drew | apply IsS35.set_1 | apply IsS35.set_2) | exact HI0.out)); (case side2 => repeat (first | (with_reducible first | exact HB.out | apply below_alloc | apply pw_below_drewN | apply below_drew1 | refine below_set ?_ (IsS35.ge HI0.out)) | exact HB.out)); (case side3 => repeat (first | exact (Kd.R_reads' HO288.out).2.2 | (with_reducible refine Kd.C_alloc ?_ _) | (with_reducible refine Kd.C_drewN ?_ _) | (with_reducible refine Kd.C_drew ?_))); (case side4 => exact (Kd.R_reads' HO288.out).2.1); (case side5 => exact far_slice (IsS35.own_ne HI0.out HO288.out (by decide))); rintro e w55 ⟨rfl, hi, hb, hk⟩; refine ⟨_, rfl, ?_⟩; have n0_ := Aside0.mk (Kd.R_mono (Kd.R_keep (IsS35.apart (show IsS35 w0 _ g s0_0 x1001_2 x1002_2 from by repeat (first | (with_reducible first | exact HI0.out | apply IsS35.alloc | apply IsS35.drewN | apply IsS35.drew | apply IsS35.set_1 | apply IsS35.set_2) | exact HI0.out)) (by (with_reducible repeat (first | apply Kd.R_alloc | apply Kd.R_drewN | apply Kd.R_drew)); exact HO288.out) (by decide)) hk (fun _ h => h.2)) (fun _ h => h.1)); have n1_ := Aside0.mk (KeepBut.trans (by repeat (first | (with_reducible first | exact HK.out | apply KeepBut.set_ | apply keep_drewN | apply keep_drew | apply keep_alloc) | exact HK.out)) hk (.inl rfl)); have n2_ := Aside0.mk (hb); have n3_ := Aside0.mk (hi); clear HO288; clear HK; clear HB; clear HI0; have HO288 := n0_; have HK := n1_; have HB := n2_; have HI0 := n3_; clear n0_ n1_ n2_ n3_; (try clear hb); (try clear hb2); (try clear hk); (try clear hi)) | ((with_reducible refine gate_callee (f := 16) rfl ?_); refine goesL_ (some 74) rfl rfl Try.func16 (by kernel_rfl) rfl #[.pointer (some ⟨g, 0, none⟩), .int .i64 2] rfl (by (try simp only [List.map_toArray, List.map_cons, List.map_nil]); first | done | rfl | (simp only [List.length_drop, List.length_take]; rfl)) ?_; (with_reducible refine (spec_l01Below.calls g s0_0 t290 t291 2 t292 t293 t294 w0 _ ?side1 ?side2 A48.out).mono ?_); (case side1 => repeat (first | (with_reducible first | exact HI0.out | apply IsS35.alloc | apply IsS35.drewN | apply IsS35.drew | apply IsS35.set_1 | apply IsS35.set_2) | exact HI0.out)); (case side2 => repeat (first | (with_reducible first | exact HB.out | apply below_alloc | apply pw_below_drewN | apply below_drew1 | refine below_set ?_ (IsS35.ge HI0.out)) | exact HB.out)); rintro e w56 ⟨rfl, hi, hb, hk⟩; refine ⟨_, rfl, ?_⟩; have n0_ := Aside0.mk (Kd.R_mono (Kd.R_keep (IsS35.apart (show IsS35 w0 _ g s0_0 t290 t291 from by repeat (first | (with_reducible first | exact HI0.out | apply IsS35.alloc | apply IsS35.drewN | apply IsS35.drew | apply IsS35.set_1 | apply IsS35.set_2) | exact HI0.out)) (by (with_reducible repeat (first | apply Kd.R_alloc | apply Kd.R_drewN | apply Kd.R_drew)); exact HO288.out) (by decide)) hk (fun _ h => h.2)) (fun _ h => h.1)); have n1_ := Aside0.mk (KeepBut.trans (by repeat (first | (with_reducible first | exact HK.out | apply KeepBut.set_ | apply keep_drewN | apply keep_drew | apply keep_alloc) | exact HK.out)) hk (.inl rfl)); have n2_ := Aside0.mk (hb); have n3_ := Aside0.mk (hi); clear HO288; clear HK; clear HB; clear HI0; have HO288 := n0_; have HK := n1_; have HB := n2_; have HI0 := n3_; clear n0_ n1_ n2_ n3_; (try clear hb); (try clear hb2); (try clear hk); (try clear hi)) | ((with_reducible refine gate_callee (f := 31) rfl ?_); refine goesL_ (some 82) rfl rfl Try.func31 (by kernel_rfl) rfl #[.pointer (some ⟨g, 0, none⟩), .int .i64 (wrap64 (a1 + 2)), .int .i64 (wrap64 (a2 - 1))] rfl (by (try simp only [List.map_toArray, List.map_cons, List.map_nil]); first | done | rfl | (simp only [List.length_drop, List.length_take]; rfl)) ?_; (with_reducible refine (ih kj40 (by have := HJ4.out; have := HK2.out; have := HJ40.out; omega) g s0_0 t293 t294 (wrap64 (a1 + 2)) (wrap64 (a2 - 1)) t295 t296 t297 w0 _ ?side1 ?side2 A50.out).mono ?_); (case side1 => repeat (first | (with_reducible first | exact HI0.out | apply IsS35.alloc | apply IsS35.drewN | apply IsS35.drew | apply IsS35.set_1 | apply IsS35.set_2) | exact HI0.out)); (case side2 => repeat (first | (with_reducible first | exact HB.out | apply below_alloc | apply pw_below_drewN | apply below_drew1 | refine below_set ?_ (IsS35.ge HI0.out)) | exact HB.out)); rintro e w57 ⟨rfl, hi, hb, hk⟩; refine ⟨_, rfl, ?_⟩; have n0_ := Aside0.mk (Kd.R_mono (Kd.R_keep (IsS35.apart (show IsS35 w0 _ g s0_0 t293 t294 from by repeat (first | (with_reducible first | exact HI0.out | apply IsS35.alloc | apply IsS35.drewN | apply IsS35.drew | apply IsS35.set_1 | apply IsS35.set_2) | exact HI0.out)) (by (with_reducible repeat (first | apply Kd.R_alloc | apply Kd.R_drewN | apply Kd.R_drew)); exact HO288.out) (by decide)) hk (fun _ h => h.2)) (fun _ h => h.1)); have n1_ := Aside0.mk (KeepBut.trans (by repeat (first | (with_reducible first | exact HK.out | apply KeepBut.set_ | apply keep_drewN | apply keep_drew | apply keep_alloc) | exact HK.out)) hk (.inl rfl)); have n2_ := Aside0.mk (hb); have n3_ := Aside0.mk (hi); clear HO288; clear HK; clear HB; clear HI0; have HO288 := n0_; have HK := n1_; have HB := n2_; have HI0 := n3_; clear n0_ n1_ n2_ n3_; (try clear hb); (try clear hb2); (try clear hk); (try clear hi)))
                            go_roundg kj40
                            case measure => have := HJ4.out; have := HK2.out; have := HJ40.out; omega
                            case rel => exact ⟨(((x8_40 ++ (⟨#[45]⟩ : ByteArray)) ++ t289) ++ t295), (wrap64 (x10_2 - 1)), (t296), (t297), (by first | rfl | (simp; done) | (simp [*]; done)), (by first | rfl | (simp; done) | (simp [*]; done)), H', ⟨by have := HJ4.out; have := HK2.out; have := HJ40.out; omega⟩, ⟨by repeat (first | (with_reducible first | exact HI0.out | apply IsS35.alloc | apply IsS35.drewN | apply IsS35.drew | apply IsS35.set_1 | apply IsS35.set_2) | exact HI0.out)⟩, ⟨by repeat (first | (with_reducible first | exact HK.out | apply KeepBut.set_ | apply keep_drewN | apply keep_drew | apply keep_alloc) | exact HK.out)⟩, ⟨by repeat (first | (with_reducible first | exact HB.out | apply below_alloc | apply pw_below_drewN | apply below_drew1 | refine below_set ?_ (IsS35.ge HI0.out)) | exact HB.out)⟩⟩
                          · rw [if_neg c51] at H
                            exact absurd H (by simp)
                        · rw [if_neg c49] at H
                          have c49b0 : (t292 == 0) = false := beq_eq_false_iff_ne.mpr c49
                          have c49b1 : (t292 != 0) = true := bne_iff_ne.mpr c49
                          replace H := Option.bind_eq_some_iff.mp H
                          obtain ⟨⟨t298, t299, t300⟩, A580, H⟩ := H
                          replace H : (if ((x8_40 ++ (⟨#[45]⟩ : ByteArray)) ++ t289).size + t298.size ≤ 9223372036854775807 then ((spec_l01Of.f s0_0 t299 t300 (([(⟨#[10]⟩ : ByteArray), (⟨#[10]⟩ : ByteArray), (⟨#[32, 35, 32, 114, 10]⟩ : ByteArray)] : List ByteArray))).bind fun bt304 => (if (((x8_40 ++ (⟨#[45]⟩ : ByteArray)) ++ t289) ++ t298).size + bt304.1.size ≤ 9223372036854775807 then (spec_l11Draw.l1 kj40 a1 a2 ((((x8_40 ++ (⟨#[45]⟩ : ByteArray)) ++ t289) ++ t298) ++ bt304.1) (wrap64 (x10_2 - 1)) s0_0 bt304.2.1 bt304.2.2) else (none))) else (none)) = some (r1, r2, r3) := H
                          have A58 := Aside0.mk A580
                          clear A580
                          by_cases c59 : ((x8_40 ++ (⟨#[45]⟩ : ByteArray)) ++ t289).size + t298.size ≤ 9223372036854775807
                          · rw [if_pos c59] at H
                            have c59b0 := eq_true c59
                            have c59b1 : decide (((x8_40 ++ (⟨#[45]⟩ : ByteArray)) ++ t289).size + t298.size ≤ 9223372036854775807) = true := decide_eq_true c59
                            try have c59b2 : (9223372036854775807 < ((x8_40 ++ (⟨#[45]⟩ : ByteArray)) ++ t289).size + t298.size) = False := eq_false (Nat.not_lt.2 c59)
                            try have c59b5 : (9223372036854775807 < x8_40.size + 1 + t289.size + t298.size) = False := by (have q := c59b2; simp only [ByteArray.size_append] at q; exact q)
                            try (have c59b4 := c59b2; simp only [ByteArray.size_extract, Nat.min_self] at c59b4)
                            obtain ⟨y301, hy301⟩ : ∃ y_ : List ByteArray, y_ = (([(⟨#[10]⟩ : ByteArray), (⟨#[10]⟩ : ByteArray), (⟨#[32, 35, 32, 114, 10]⟩ : ByteArray)] : List ByteArray)) := ⟨_, rfl⟩
                            replace H : ((spec_l01Of.f s0_0 t299 t300 y301).bind fun bt304 => (if (((x8_40 ++ (⟨#[45]⟩ : ByteArray)) ++ t289) ++ t298).size + bt304.1.size ≤ 9223372036854775807 then (spec_l11Draw.l1 kj40 a1 a2 ((((x8_40 ++ (⟨#[45]⟩ : ByteArray)) ++ t289) ++ t298) ++ bt304.1) (wrap64 (x10_2 - 1)) s0_0 bt304.2.1 bt304.2.2) else (none))) = some (r1, r2, r3) := by first | (rw [hy301]; with_reducible exact H) | (have H2_ := (Option.bind_some _ _).symm.trans H; rw [hy301]; with_reducible exact H2_) | (have H2_ := (Option.bind_some _ _).symm.trans H; with_reducible exact H2_) | with_reducible exact H | (rw [hy301]; exact H) | exact H
                            have Ny301 := Aside0.mk hy301
                            clear hy301
                            replace H := Option.bind_eq_some_iff.mp H
                            obtain ⟨⟨t304, t305, t306⟩, A600, H⟩ := H
                            replace H : (if (((x8_40 ++ (⟨#[45]⟩ : ByteArray)) ++ t289) ++ t298).size + t304.size ≤ 9223372036854775807 then (spec_l11Draw.l1 kj40 a1 a2 ((((x8_40 ++ (⟨#[45]⟩ : ByteArray)) ++ t289) ++ t298) ++ t304) (wrap64 (x10_2 - 1)) s0_0 t305 t306) else (none)) = some (r1, r2, r3) := H
                            have A60 := Aside0.mk A600
                            clear A600
                            by_cases c61 : (((x8_40 ++ (⟨#[45]⟩ : ByteArray)) ++ t289) ++ t298).size + t304.size ≤ 9223372036854775807
                            · rw [if_pos c61] at H
                              have c61b0 := eq_true c61
                              have c61b1 : decide ((((x8_40 ++ (⟨#[45]⟩ : ByteArray)) ++ t289) ++ t298).size + t304.size ≤ 9223372036854775807) = true := decide_eq_true c61
                              try have c61b2 : (9223372036854775807 < (((x8_40 ++ (⟨#[45]⟩ : ByteArray)) ++ t289) ++ t298).size + t304.size) = False := eq_false (Nat.not_lt.2 c61)
                              try have c61b5 : (9223372036854775807 < x8_40.size + 1 + t289.size + t298.size + t304.size) = False := by (have q := c61b2; simp only [ByteArray.size_append] at q; exact q)
                              try (have c61b4 := c61b2; simp only [ByteArray.size_extract, Nat.min_self] at c61b4)
                              have H' := Aside0.mk H
                              clear H
                              go_wp2_with (first | ((with_reducible refine gate_dst (N := 70) rfl ?_); refine Kd.R_lit Kd.string _ 9 ?hg (N := 70) ?hd (xs := ([(⟨#[32]⟩ : ByteArray), (⟨#[32]⟩ : ByteArray), (⟨#[32]⟩ : ByteArray), (⟨#[32, 32]⟩ : ByteArray)] : List ByteArray)) (inner := [.string (⟨#[32]⟩ : ByteArray), .string (⟨#[32]⟩ : ByteArray), .string (⟨#[32]⟩ : ByteArray), .string (⟨#[32, 32]⟩ : ByteArray)]) (ok := fun _ => True) (okp := fun _ => True) ?hr ?hp (fun _ hk => hk) trivial (Below.refl _ _) (Nat.le_refl _) (by simp) ?_; (case hd => rfl); (case hg => rfl); (case hr => first | (go_simp; done) | (go_simp; rfl)); (case hp => exact (Reps.one (show Kd.M Kd.string _ _ _ (⟨#[32]⟩ : ByteArray) [.string (⟨#[32]⟩ : ByteArray)] from rfl) (Reps.one (show Kd.M Kd.string _ _ _ (⟨#[32]⟩ : ByteArray) [.string (⟨#[32]⟩ : ByteArray)] from rfl) (Reps.one (show Kd.M Kd.string _ _ _ (⟨#[32]⟩ : ByteArray) [.string (⟨#[32]⟩ : ByteArray)] from rfl) (Reps.one (show Kd.M Kd.string _ _ _ (⟨#[32, 32]⟩ : ByteArray) [.string (⟨#[32, 32]⟩ : ByteArray)] from rfl) (Reps.none _ _)))))); intro v287 w62 ho63 hb hg_ hnew_; clear hg_ hnew_; (first | rw [← Ny286.out] at ho63 | (simp only [Int.reduceToNat] at ho63; rw [← Ny286.out] at ho63)); have n0_ := Aside0.mk (Kd.R_lower ho63 (keep_size (w := w) (g := g) (row := none) (by repeat (first | (with_reducible first | exact HK.out | apply KeepBut.set_ | apply keep_drewN | apply keep_drew | apply keep_alloc) | exact HK.out)))); have n1_ := Aside0.mk (IsS35.below (by repeat (first | (with_reducible first | exact HI0.out | apply IsS35.alloc | apply IsS35.drewN | apply IsS35.drew | apply IsS35.set_1 | apply IsS35.set_2) | exact HI0.out)) hb); have n2_ := Aside0.mk (KeepBut.trans (by repeat (first | (with_reducible first | exact HK.out | apply KeepBut.set_ | apply keep_drewN | apply keep_drew | apply keep_alloc) | exact HK.out)) (KeepBut.of_below hb g none) (.inl rfl)); have n3_ := Aside0.mk (below_step (by repeat (first | (with_reducible first | exact HB.out | apply below_alloc | apply pw_below_drewN | apply below_drew1 | refine below_set ?_ (IsS35.ge HI0.out)) | exact HB.out)) hb); clear HI0; clear HK; clear HB; have HO288 := n0_; have HI0 := n1_; have HK := n2_; have HB := n3_; clear n0_ n1_ n2_ n3_; clear hb ho63; obtain ⟨Ao64, co64, eo64⟩ := Kd.R_slice HO288.out; subst eo64) | ((with_reducible refine gate_callee (f := 28) rfl ?_); refine goesL_ (some 71) rfl rfl Try.func28 (by kernel_rfl) rfl #[.pointer (some ⟨g, 0, none⟩), .slice Ao64 y286.length co64] rfl (by (try simp only [List.map_toArray, List.map_cons, List.map_nil]); first | done | rfl | (simp only [List.length_drop, List.length_take]; rfl)) ?_; (with_reducible refine (spec_l01Of.calls g s0_0 x1001_2 x1002_2 _ _ y286 t289 t290 t291 w0 _ ?side1 ?side2 ?side3 ?side4 ?side5 A46.out).mono ?_); (case side1 => repeat (first | (with_reducible first | exact HI0.out | apply IsS35.alloc | apply IsS35.drewN | apply IsS35.drew | apply IsS35.set_1 | apply IsS35.set_2) | exact HI0.out)); (case side2 => repeat (first | (with_reducible first | exact HB.out | apply below_alloc | apply pw_below_drewN | apply below_drew1 | refine below_set ?_ (IsS35.ge HI0.out)) | exact HB.out)); (case side3 => repeat (first | exact (Kd.R_reads' HO288.out).2.2 | (with_reducible refine Kd.C_alloc ?_ _) | (with_reducible refine Kd.C_drewN ?_ _) | (with_reducible refine Kd.C_drew ?_))); (case side4 => exact (Kd.R_reads' HO288.out).2.1); (case side5 => exact far_slice (IsS35.own_ne HI0.out HO288.out (by decide))); rintro e w65 ⟨rfl, hi, hb, hk⟩; refine ⟨_, rfl, ?_⟩; have n0_ := Aside0.mk (Kd.R_mono (Kd.R_keep (IsS35.apart (show IsS35 w0 _ g s0_0 x1001_2 x1002_2 from by repeat (first | (with_reducible first | exact HI0.out | apply IsS35.alloc | apply IsS35.drewN | apply IsS35.drew | apply IsS35.set_1 | apply IsS35.set_2) | exact HI0.out)) (by (with_reducible repeat (first | apply Kd.R_alloc | apply Kd.R_drewN | apply Kd.R_drew)); exact HO288.out) (by decide)) hk (fun _ h => h.2)) (fun _ h => h.1)); have n1_ := Aside0.mk (KeepBut.trans (by repeat (first | (with_reducible first | exact HK.out | apply KeepBut.set_ | apply keep_drewN | apply keep_drew | apply keep_alloc) | exact HK.out)) hk (.inl rfl)); have n2_ := Aside0.mk (hb); have n3_ := Aside0.mk (hi); clear HO288; clear HK; clear HB; clear HI0; have HO288 := n0_; have HK := n1_; have HB := n2_; have HI0 := n3_; clear n0_ n1_ n2_ n3_; (try clear hb); (try clear hb2); (try clear hk); (try clear hi)) | ((with_reducible refine gate_callee (f := 16) rfl ?_); refine goesL_ (some 74) rfl rfl Try.func16 (by kernel_rfl) rfl #[.pointer (some ⟨g, 0, none⟩), .int .i64 2] rfl (by (try simp only [List.map_toArray, List.map_cons, List.map_nil]); first | done | rfl | (simp only [List.length_drop, List.length_take]; rfl)) ?_; (with_reducible refine (spec_l01Below.calls g s0_0 t290 t291 2 t292 t293 t294 w0 _ ?side1 ?side2 A48.out).mono ?_); (case side1 => repeat (first | (with_reducible first | exact HI0.out | apply IsS35.alloc | apply IsS35.drewN | apply IsS35.drew | apply IsS35.set_1 | apply IsS35.set_2) | exact HI0.out)); (case side2 => repeat (first | (with_reducible first | exact HB.out | apply below_alloc | apply pw_below_drewN | apply below_drew1 | refine below_set ?_ (IsS35.ge HI0.out)) | exact HB.out)); rintro e w66 ⟨rfl, hi, hb, hk⟩; refine ⟨_, rfl, ?_⟩; have n0_ := Aside0.mk (Kd.R_mono (Kd.R_keep (IsS35.apart (show IsS35 w0 _ g s0_0 t290 t291 from by repeat (first | (with_reducible first | exact HI0.out | apply IsS35.alloc | apply IsS35.drewN | apply IsS35.drew | apply IsS35.set_1 | apply IsS35.set_2) | exact HI0.out)) (by (with_reducible repeat (first | apply Kd.R_alloc | apply Kd.R_drewN | apply Kd.R_drew)); exact HO288.out) (by decide)) hk (fun _ h => h.2)) (fun _ h => h.1)); have n1_ := Aside0.mk (KeepBut.trans (by repeat (first | (with_reducible first | exact HK.out | apply KeepBut.set_ | apply keep_drewN | apply keep_drew | apply keep_alloc) | exact HK.out)) hk (.inl rfl)); have n2_ := Aside0.mk (hb); have n3_ := Aside0.mk (hi); clear HO288; clear HK; clear HB; clear HI0; have HO288 := n0_; have HK := n1_; have HB := n2_; have HI0 := n3_; clear n0_ n1_ n2_ n3_; (try clear hb); (try clear hb2); (try clear hk); (try clear hi)) | ((with_reducible refine gate_callee (f := 32) rfl ?_); refine goesL_ (some 86) rfl rfl Try.func32 (by kernel_rfl) rfl #[.pointer (some ⟨g, 0, none⟩)] rfl (by (try simp only [List.map_toArray, List.map_cons, List.map_nil]); first | done | rfl | (simp only [List.length_drop, List.length_take]; rfl)) ?_; (with_reducible refine (spec_l11Leaf.calls kj40 g s0_0 t293 t294 t298 t299 t300 w0 _ ?side1 ?side2 A58.out).mono ?_); (case side1 => repeat (first | (with_reducible first | exact HI0.out | apply IsS35.alloc | apply IsS35.drewN | apply IsS35.drew | apply IsS35.set_1 | apply IsS35.set_2) | exact HI0.out)); (case side2 => repeat (first | (with_reducible first | exact HB.out | apply below_alloc | apply pw_below_drewN | apply below_drew1 | refine below_set ?_ (IsS35.ge HI0.out)) | exact HB.out)); rintro e w67 ⟨rfl, hi, hb, hk⟩; refine ⟨_, rfl, ?_⟩; have n0_ := Aside0.mk (Kd.R_mono (Kd.R_keep (IsS35.apart (show IsS35 w0 _ g s0_0 t293 t294 from by repeat (first | (with_reducible first | exact HI0.out | apply IsS35.alloc | apply IsS35.drewN | apply IsS35.drew | apply IsS35.set_1 | apply IsS35.set_2) | exact HI0.out)) (by (with_reducible repeat (first | apply Kd.R_alloc | apply Kd.R_drewN | apply Kd.R_drew)); exact HO288.out) (by decide)) hk (fun _ h => h.2)) (fun _ h => h.1)); have n1_ := Aside0.mk (KeepBut.trans (by repeat (first | (with_reducible first | exact HK.out | apply KeepBut.set_ | apply keep_drewN | apply keep_drew | apply keep_alloc) | exact HK.out)) hk (.inl rfl)); have n2_ := Aside0.mk (hb); have n3_ := Aside0.mk (hi); clear HO288; clear HK; clear HB; clear HI0; have HO288 := n0_; have HK := n1_; have HB := n2_; have HI0 := n3_; clear n0_ n1_ n2_ n3_; (try clear hb); (try clear hb2); (try clear hk); (try clear hi)) | ((with_reducible refine gate_dst (N := 89) rfl ?_); refine Kd.R_lit Kd.string _ 9 ?hg (N := 89) ?hd (xs := ([(⟨#[10]⟩ : ByteArray), (⟨#[10]⟩ : ByteArray), (⟨#[32, 35, 32, 114, 10]⟩ : ByteArray)] : List ByteArray)) (inner := [.string (⟨#[10]⟩ : ByteArray), .string (⟨#[10]⟩ : ByteArray), .string (⟨#[32, 35, 32, 114, 10]⟩ : ByteArray)]) (ok := fun _ => True) (okp := fun _ => True) ?hr ?hp (fun _ hk => hk) trivial (Below.refl _ _) (Nat.le_refl _) (by simp) ?_; (case hd => rfl); (case hg => rfl); (case hr => first | (go_simp; done) | (go_simp; rfl)); (case hp => exact (Reps.one (show Kd.M Kd.string _ _ _ (⟨#[10]⟩ : ByteArray) [.string (⟨#[10]⟩ : ByteArray)] from rfl) (Reps.one (show Kd.M Kd.string _ _ _ (⟨#[10]⟩ : ByteArray) [.string (⟨#[10]⟩ : ByteArray)] from rfl) (Reps.one (show Kd.M Kd.string _ _ _ (⟨#[32, 35, 32, 114, 10]⟩ : ByteArray) [.string (⟨#[32, 35, 32, 114, 10]⟩ : ByteArray)] from rfl) (Reps.none _ _))))); intro v302 w68 ho69 hb hg_ hnew_; clear hg_ hnew_; (first | rw [← Ny301.out] at ho69 | (simp only [Int.reduceToNat] at ho69; rw [← Ny301.out] at ho69)); have n0_ := Aside0.mk (Kd.R_elder' (by (with_reducible repeat (first | apply Kd.R_alloc | apply Kd.R_drewN | apply Kd.R_drew)); exact HO288.out) (Kd.R_base ho69) hb); have n1_ := Aside0.mk (Kd.R_lower (Kd.R_new' ho69 (Kd.R_lt (by (with_reducible repeat (first | apply Kd.R_alloc | apply Kd.R_drewN | apply Kd.R_drew)); exact HO288.out))) (keep_size (w := w) (g := g) (row := none) (by repeat (first | (with_reducible first | exact HK.out | apply KeepBut.set_ | apply keep_drewN | apply keep_drew | apply keep_alloc) | exact HK.out)))); have n2_ := Aside0.mk (IsS35.below (by repeat (first | (with_reducible first | exact HI0.out | apply IsS35.alloc | apply IsS35.drewN | apply IsS35.drew | apply IsS35.set_1 | apply IsS35.set_2) | exact HI0.out)) hb); have n3_ := Aside0.mk (KeepBut.trans (by repeat (first | (with_reducible first | exact HK.out | apply KeepBut.set_ | apply keep_drewN | apply keep_drew | apply keep_alloc) | exact HK.out)) (KeepBut.of_below hb g none) (.inl rfl)); have n4_ := Aside0.mk (below_step (by repeat (first | (with_reducible first | exact HB.out | apply below_alloc | apply pw_below_drewN | apply below_drew1 | refine below_set ?_ (IsS35.ge HI0.out)) | exact HB.out)) hb); clear HO288; clear HI0; clear HK; clear HB; have HO288 := n0_; have HO303 := n1_; have HI0 := n2_; have HK := n3_; have HB := n4_; clear n0_ n1_ n2_ n3_ n4_; clear hb ho69; obtain ⟨Ao70, co70, eo70⟩ := Kd.R_slice HO303.out; subst eo70) | ((with_reducible refine gate_callee (f := 28) rfl ?_); refine goesL_ (some 90) rfl rfl Try.func28 (by kernel_rfl) rfl #[.pointer (some ⟨g, 0, none⟩), .slice Ao70 y301.length co70] rfl (by (try simp only [List.map_toArray, List.map_cons, List.map_nil]); first | done | rfl | (simp only [List.length_drop, List.length_take]; rfl)) ?_; (with_reducible refine (spec_l01Of.calls g s0_0 t299 t300 _ _ y301 t304 t305 t306 w0 _ ?side1 ?side2 ?side3 ?side4 ?side5 A60.out).mono ?_); (case side1 => repeat (first | (with_reducible first | exact HI0.out | apply IsS35.alloc | apply IsS35.drewN | apply IsS35.drew | apply IsS35.set_1 | apply IsS35.set_2) | exact HI0.out)); (case side2 => repeat (first | (with_reducible first | exact HB.out | apply below_alloc | apply pw_below_drewN | apply below_drew1 | refine below_set ?_ (IsS35.ge HI0.out)) | exact HB.out)); (case side3 => repeat (first | exact (Kd.R_reads' HO303.out).2.2 | (with_reducible refine Kd.C_alloc ?_ _) | (with_reducible refine Kd.C_drewN ?_ _) | (with_reducible refine Kd.C_drew ?_))); (case side4 => exact (Kd.R_reads' HO303.out).2.1); (case side5 => exact far_slice (IsS35.own_ne HI0.out HO303.out (by decide))); rintro e w71 ⟨rfl, hi, hb, hk⟩; refine ⟨_, rfl, ?_⟩; have n0_ := Aside0.mk (Kd.R_mono (Kd.R_keep (IsS35.apart (show IsS35 w0 _ g s0_0 t299 t300 from by repeat (first | (with_reducible first | exact HI0.out | apply IsS35.alloc | apply IsS35.drewN | apply IsS35.drew | apply IsS35.set_1 | apply IsS35.set_2) | exact HI0.out)) (by (with_reducible repeat (first | apply Kd.R_alloc | apply Kd.R_drewN | apply Kd.R_drew)); exact HO288.out) (by decide)) hk (fun _ h => h.2)) (fun _ h => h.1)); have n1_ := Aside0.mk (Kd.R_mono (Kd.R_keep (IsS35.apart (show IsS35 w0 _ g s0_0 t299 t300 from by repeat (first | (with_reducible first | exact HI0.out | apply IsS35.alloc | apply IsS35.drewN | apply IsS35.drew | apply IsS35.set_1 | apply IsS35.set_2) | exact HI0.out)) (by (with_reducible repeat (first | apply Kd.R_alloc | apply Kd.R_drewN | apply Kd.R_drew)); exact HO303.out) (by decide)) hk (fun _ h => h.2)) (fun _ h => h.1)); have n2_ := Aside0.mk (KeepBut.trans (by repeat (first | (with_reducible first | exact HK.out | apply KeepBut.set_ | apply keep_drewN | apply keep_drew | apply keep_alloc) | exact HK.out)) hk (.inl rfl)); have n3_ := Aside0.mk (hb); have n4_ := Aside0.mk (hi); clear HO288; clear HO303; clear HK; clear HB; clear HI0; have HO288 := n0_; have HO303 := n1_; have HK := n2_; have HB := n3_; have HI0 := n4_; clear n0_ n1_ n2_ n3_ n4_; (try clear hb); (try clear hb2); (try clear hk); (try clear hi)))
                              go_roundg kj40
                              case measure => have := HJ4.out; have := HK2.out; have := HJ40.out; omega
                              case rel => exact ⟨((((x8_40 ++ (⟨#[45]⟩ : ByteArray)) ++ t289) ++ t298) ++ t304), (wrap64 (x10_2 - 1)), (t305), (t306), (by first | rfl | (simp; done) | (simp [*]; done)), (by first | rfl | (simp; done) | (simp [*]; done)), H', ⟨by have := HJ4.out; have := HK2.out; have := HJ40.out; omega⟩, ⟨by repeat (first | (with_reducible first | exact HI0.out | apply IsS35.alloc | apply IsS35.drewN | apply IsS35.drew | apply IsS35.set_1 | apply IsS35.set_2) | exact HI0.out)⟩, ⟨by repeat (first | (with_reducible first | exact HK.out | apply KeepBut.set_ | apply keep_drewN | apply keep_drew | apply keep_alloc) | exact HK.out)⟩, ⟨by repeat (first | (with_reducible first | exact HB.out | apply below_alloc | apply pw_below_drewN | apply below_drew1 | refine below_set ?_ (IsS35.ge HI0.out)) | exact HB.out)⟩⟩
                            · rw [if_neg c61] at H
                              exact absurd H (by simp)
                          · rw [if_neg c59] at H
                            exact absurd H (by simp)
                      · rw [if_neg c47] at H
                        exact absurd H (by simp)
                    · rw [if_neg c45] at H
                      exact absurd H (by simp)
              · rw [if_neg c40] at H
                have c40b0 : decide (0 < x10_2) = false := decide_eq_false c40
                clear c40
                simp only [Option.some.injEq, Prod.mk.injEq] at H
                obtain ⟨rfl, rfl, rfl⟩ := H
                go_wp2
                go_ret
                exact ⟨by first | rfl | (simp [errW_none, errW_some] <;> rfl) | (simp [*, errW_none, errW_some] <;> rfl), by repeat (first | (with_reducible first | exact HI0.out | apply IsS35.alloc | apply IsS35.drewN | apply IsS35.drew | apply IsS35.set_1 | apply IsS35.set_2) | exact HI0.out), by repeat (first | (with_reducible first | exact HB.out | apply below_alloc | apply pw_below_drewN | apply below_drew1 | refine below_set ?_ (IsS35.ge HI0.out)) | exact HB.out), by repeat (first | (with_reducible first | exact HK.out | apply KeepBut.set_ | apply keep_drewN | apply keep_drew | apply keep_alloc) | exact HK.out)⟩
        · rw [if_neg c37] at H
          have c37b0 : decide (x7_4 < 7) = false := decide_eq_false c37
          clear c37
          by_cases c72 : x7_4 = 7
          · rw [if_pos c72] at H
            have c72b0 : (x7_4 == 7) = true := beq_iff_eq.mpr c72
            have c72b1 : (x7_4 != 7) = false := bne_eq_false_iff_eq.mpr c72
            clear c72
            obtain ⟨y307, hy307⟩ : ∃ y_ : List ByteArray, y_ = (([(⟨#[124]⟩ : ByteArray), (⟨#[62, 45]⟩ : ByteArray), (⟨#[124, 43]⟩ : ByteArray)] : List ByteArray)) := ⟨_, rfl⟩
            replace H : ((spec_l01Of.f s0_0 t255 t256 y307).bind fun bt310 => (if bt310.1.size + 1 ≤ 9223372036854775807 then ((spec_l11Pad.f kj4 a1).bind fun t313 => (if (bt310.1 ++ (⟨#[10]⟩ : ByteArray)).size + t313.size ≤ 9223372036854775807 then (if ((bt310.1 ++ (⟨#[10]⟩ : ByteArray)) ++ t313).size + 7 ≤ 9223372036854775807 then ((spec_l11Pad.f kj4 a1).bind fun t314 => (if (((bt310.1 ++ (⟨#[10]⟩ : ByteArray)) ++ t313) ++ (⟨#[32, 116, 101, 120, 116, 10, 10]⟩ : ByteArray)).size + t314.size ≤ 9223372036854775807 then (if ((((bt310.1 ++ (⟨#[10]⟩ : ByteArray)) ++ t313) ++ (⟨#[32, 116, 101, 120, 116, 10, 10]⟩ : ByteArray)) ++ t314).size + 6 ≤ 9223372036854775807 then (some (((((bt310.1 ++ (⟨#[10]⟩ : ByteArray)) ++ t313) ++ (⟨#[32, 116, 101, 120, 116, 10, 10]⟩ : ByteArray)) ++ t314) ++ (⟨#[32, 32, 102, 97, 114, 10]⟩ : ByteArray), bt310.2.1, bt310.2.2)) else (none)) else (none))) else (none)) else (none))) else (none))) = some (r1, r2, r3) := by first | (rw [hy307]; with_reducible exact H) | (have H2_ := (Option.bind_some _ _).symm.trans H; rw [hy307]; with_reducible exact H2_) | (have H2_ := (Option.bind_some _ _).symm.trans H; with_reducible exact H2_) | with_reducible exact H | (rw [hy307]; exact H) | exact H
            have Ny307 := Aside0.mk hy307
            clear hy307
            replace H := Option.bind_eq_some_iff.mp H
            obtain ⟨⟨t310, t311, t312⟩, A730, H⟩ := H
            replace H : (if t310.size + 1 ≤ 9223372036854775807 then ((spec_l11Pad.f kj4 a1).bind fun t313 => (if (t310 ++ (⟨#[10]⟩ : ByteArray)).size + t313.size ≤ 9223372036854775807 then (if ((t310 ++ (⟨#[10]⟩ : ByteArray)) ++ t313).size + 7 ≤ 9223372036854775807 then ((spec_l11Pad.f kj4 a1).bind fun t314 => (if (((t310 ++ (⟨#[10]⟩ : ByteArray)) ++ t313) ++ (⟨#[32, 116, 101, 120, 116, 10, 10]⟩ : ByteArray)).size + t314.size ≤ 9223372036854775807 then (if ((((t310 ++ (⟨#[10]⟩ : ByteArray)) ++ t313) ++ (⟨#[32, 116, 101, 120, 116, 10, 10]⟩ : ByteArray)) ++ t314).size + 6 ≤ 9223372036854775807 then (some (((((t310 ++ (⟨#[10]⟩ : ByteArray)) ++ t313) ++ (⟨#[32, 116, 101, 120, 116, 10, 10]⟩ : ByteArray)) ++ t314) ++ (⟨#[32, 32, 102, 97, 114, 10]⟩ : ByteArray), t311, t312)) else (none)) else (none))) else (none)) else (none))) else (none)) = some (r1, r2, r3) := H
            have A73 := Aside0.mk A730
            clear A730
            by_cases c74 : t310.size + 1 ≤ 9223372036854775807
            · rw [if_pos c74] at H
              have c74b0 := eq_true c74
              have c74b1 : decide (t310.size + 1 ≤ 9223372036854775807) = true := decide_eq_true c74
              try have c74b2 : (9223372036854775807 < t310.size + 1) = False := eq_false (Nat.not_lt.2 c74)
              try (have c74b4 := c74b2; simp only [ByteArray.size_extract, Nat.min_self] at c74b4)
              replace H := Option.bind_eq_some_iff.mp H
              obtain ⟨t313, A750, H⟩ := H
              replace H : (if (t310 ++ (⟨#[10]⟩ : ByteArray)).size + t313.size ≤ 9223372036854775807 then (if ((t310 ++ (⟨#[10]⟩ : ByteArray)) ++ t313).size + 7 ≤ 9223372036854775807 then ((spec_l11Pad.f kj4 a1).bind fun t314 => (if (((t310 ++ (⟨#[10]⟩ : ByteArray)) ++ t313) ++ (⟨#[32, 116, 101, 120, 116, 10, 10]⟩ : ByteArray)).size + t314.size ≤ 9223372036854775807 then (if ((((t310 ++ (⟨#[10]⟩ : ByteArray)) ++ t313) ++ (⟨#[32, 116, 101, 120, 116, 10, 10]⟩ : ByteArray)) ++ t314).size + 6 ≤ 9223372036854775807 then (some (((((t310 ++ (⟨#[10]⟩ : ByteArray)) ++ t313) ++ (⟨#[32, 116, 101, 120, 116, 10, 10]⟩ : ByteArray)) ++ t314) ++ (⟨#[32, 32, 102, 97, 114, 10]⟩ : ByteArray), t311, t312)) else (none)) else (none))) else (none)) else (none)) = some (r1, r2, r3) := H
              have A75 := Aside0.mk A750
              clear A750
              by_cases c76 : (t310 ++ (⟨#[10]⟩ : ByteArray)).size + t313.size ≤ 9223372036854775807
              · rw [if_pos c76] at H
                have c76b0 := eq_true c76
                have c76b1 : decide ((t310 ++ (⟨#[10]⟩ : ByteArray)).size + t313.size ≤ 9223372036854775807) = true := decide_eq_true c76
                try have c76b2 : (9223372036854775807 < (t310 ++ (⟨#[10]⟩ : ByteArray)).size + t313.size) = False := eq_false (Nat.not_lt.2 c76)
                try have c76b5 : (9223372036854775807 < t310.size + 1 + t313.size) = False := by (have q := c76b2; simp only [ByteArray.size_append] at q; exact q)
                try (have c76b4 := c76b2; simp only [ByteArray.size_extract, Nat.min_self] at c76b4)
                by_cases c77 : ((t310 ++ (⟨#[10]⟩ : ByteArray)) ++ t313).size + 7 ≤ 9223372036854775807
                · rw [if_pos c77] at H
                  have c77b0 := eq_true c77
                  have c77b1 : decide (((t310 ++ (⟨#[10]⟩ : ByteArray)) ++ t313).size + 7 ≤ 9223372036854775807) = true := decide_eq_true c77
                  try have c77b2 : (9223372036854775807 < ((t310 ++ (⟨#[10]⟩ : ByteArray)) ++ t313).size + 7) = False := eq_false (Nat.not_lt.2 c77)
                  try have c77b5 : (9223372036854775807 < t310.size + 1 + t313.size + 7) = False := by (have q := c77b2; simp only [ByteArray.size_append] at q; exact q)
                  try (have c77b4 := c77b2; simp only [ByteArray.size_extract, Nat.min_self] at c77b4)
                  replace H := Option.bind_eq_some_iff.mp H
                  obtain ⟨t314, A780, H⟩ := H
                  replace H : (if (((t310 ++ (⟨#[10]⟩ : ByteArray)) ++ t313) ++ (⟨#[32, 116, 101, 120, 116, 10, 10]⟩ : ByteArray)).size + t314.size ≤ 9223372036854775807 then (if ((((t310 ++ (⟨#[10]⟩ : ByteArray)) ++ t313) ++ (⟨#[32, 116, 101, 120, 116, 10, 10]⟩ : ByteArray)) ++ t314).size + 6 ≤ 9223372036854775807 then (some (((((t310 ++ (⟨#[10]⟩ : ByteArray)) ++ t313) ++ (⟨#[32, 116, 101, 120, 116, 10, 10]⟩ : ByteArray)) ++ t314) ++ (⟨#[32, 32, 102, 97, 114, 10]⟩ : ByteArray), t311, t312)) else (none)) else (none)) = some (r1, r2, r3) := H
                  have A78 := Aside0.mk A780
                  clear A780
                  by_cases c79 : (((t310 ++ (⟨#[10]⟩ : ByteArray)) ++ t313) ++ (⟨#[32, 116, 101, 120, 116, 10, 10]⟩ : ByteArray)).size + t314.size ≤ 9223372036854775807
                  · rw [if_pos c79] at H
                    have c79b0 := eq_true c79
                    have c79b1 : decide ((((t310 ++ (⟨#[10]⟩ : ByteArray)) ++ t313) ++ (⟨#[32, 116, 101, 120, 116, 10, 10]⟩ : ByteArray)).size + t314.size ≤ 9223372036854775807) = true := decide_eq_true c79
                    try have c79b2 : (9223372036854775807 < (((t310 ++ (⟨#[10]⟩ : ByteArray)) ++ t313) ++ (⟨#[32, 116, 101, 120, 116, 10, 10]⟩ : ByteArray)).size + t314.size) = False := eq_false (Nat.not_lt.2 c79)
                    try have c79b5 : (9223372036854775807 < t310.size + 1 + t313.size + 7 + t314.size) = False := by (have q := c79b2; simp only [ByteArray.size_append] at q; exact q)
                    try (have c79b4 := c79b2; simp only [ByteArray.size_extract, Nat.min_self] at c79b4)
                    by_cases c80 : ((((t310 ++ (⟨#[10]⟩ : ByteArray)) ++ t313) ++ (⟨#[32, 116, 101, 120, 116, 10, 10]⟩ : ByteArray)) ++ t314).size + 6 ≤ 9223372036854775807
                    · rw [if_pos c80] at H
                      have c80b0 := eq_true c80
                      have c80b1 : decide (((((t310 ++ (⟨#[10]⟩ : ByteArray)) ++ t313) ++ (⟨#[32, 116, 101, 120, 116, 10, 10]⟩ : ByteArray)) ++ t314).size + 6 ≤ 9223372036854775807) = true := decide_eq_true c80
                      try have c80b2 : (9223372036854775807 < ((((t310 ++ (⟨#[10]⟩ : ByteArray)) ++ t313) ++ (⟨#[32, 116, 101, 120, 116, 10, 10]⟩ : ByteArray)) ++ t314).size + 6) = False := eq_false (Nat.not_lt.2 c80)
                      try have c80b5 : (9223372036854775807 < t310.size + 1 + t313.size + 7 + t314.size + 6) = False := by (have q := c80b2; simp only [ByteArray.size_append] at q; exact q)
                      try (have c80b4 := c80b2; simp only [ByteArray.size_extract, Nat.min_self] at c80b4)
                      simp only [Option.some.injEq, Prod.mk.injEq] at H
                      obtain ⟨rfl, rfl, rfl⟩ := H
                      go_wp2_with (first | ((with_reducible refine gate_dst (N := 97) rfl ?_); refine Kd.R_lit Kd.string _ 9 ?hg (N := 97) ?hd (xs := ([(⟨#[124]⟩ : ByteArray), (⟨#[62, 45]⟩ : ByteArray), (⟨#[124, 43]⟩ : ByteArray)] : List ByteArray)) (inner := [.string (⟨#[124]⟩ : ByteArray), .string (⟨#[62, 45]⟩ : ByteArray), .string (⟨#[124, 43]⟩ : ByteArray)]) (ok := fun _ => True) (okp := fun _ => True) ?hr ?hp (fun _ hk => hk) trivial (Below.refl _ _) (Nat.le_refl _) (by simp) ?_; (case hd => rfl); (case hg => rfl); (case hr => first | (go_simp; done) | (go_simp; rfl)); (case hp => exact (Reps.one (show Kd.M Kd.string _ _ _ (⟨#[124]⟩ : ByteArray) [.string (⟨#[124]⟩ : ByteArray)] from rfl) (Reps.one (show Kd.M Kd.string _ _ _ (⟨#[62, 45]⟩ : ByteArray) [.string (⟨#[62, 45]⟩ : ByteArray)] from rfl) (Reps.one (show Kd.M Kd.string _ _ _ (⟨#[124, 43]⟩ : ByteArray) [.string (⟨#[124, 43]⟩ : ByteArray)] from rfl) (Reps.none _ _))))); intro v308 w81 ho82 hb hg_ hnew_; clear hg_ hnew_; (first | rw [← Ny307.out] at ho82 | (simp only [Int.reduceToNat] at ho82; rw [← Ny307.out] at ho82)); have n0_ := Aside0.mk (Kd.R_lower ho82 (keep_size (w := w) (g := g) (row := none) (by repeat (first | (with_reducible first | exact HK.out | apply KeepBut.set_ | apply keep_drewN | apply keep_drew | apply keep_alloc) | exact HK.out)))); have n1_ := Aside0.mk (IsS35.below (by repeat (first | (with_reducible first | exact HI0.out | apply IsS35.alloc | apply IsS35.drewN | apply IsS35.drew | apply IsS35.set_1 | apply IsS35.set_2) | exact HI0.out)) hb); have n2_ := Aside0.mk (KeepBut.trans (by repeat (first | (with_reducible first | exact HK.out | apply KeepBut.set_ | apply keep_drewN | apply keep_drew | apply keep_alloc) | exact HK.out)) (KeepBut.of_below hb g none) (.inl rfl)); have n3_ := Aside0.mk (below_step (by repeat (first | (with_reducible first | exact HB.out | apply below_alloc | apply pw_below_drewN | apply below_drew1 | refine below_set ?_ (IsS35.ge HI0.out)) | exact HB.out)) hb); clear HI0; clear HK; clear HB; have HO309 := n0_; have HI0 := n1_; have HK := n2_; have HB := n3_; clear n0_ n1_ n2_ n3_; clear hb ho82; obtain ⟨Ao83, co83, eo83⟩ := Kd.R_slice HO309.out; subst eo83) | ((with_reducible refine gate_callee (f := 28) rfl ?_); refine goesL_ (some 98) rfl rfl Try.func28 (by kernel_rfl) rfl #[.pointer (some ⟨g, 0, none⟩), .slice Ao83 y307.length co83] rfl (by (try simp only [List.map_toArray, List.map_cons, List.map_nil]); first | done | rfl | (simp only [List.length_drop, List.length_take]; rfl)) ?_; (with_reducible refine (spec_l01Of.calls g s0_0 t255 t256 _ _ y307 t310 t311 t312 w0 _ ?side1 ?side2 ?side3 ?side4 ?side5 A73.out).mono ?_); (case side1 => repeat (first | (with_reducible first | exact HI0.out | apply IsS35.alloc | apply IsS35.drewN | apply IsS35.drew | apply IsS35.set_1 | apply IsS35.set_2) | exact HI0.out)); (case side2 => repeat (first | (with_reducible first | exact HB.out | apply below_alloc | apply pw_below_drewN | apply below_drew1 | refine below_set ?_ (IsS35.ge HI0.out)) | exact HB.out)); (case side3 => repeat (first | exact (Kd.R_reads' HO309.out).2.2 | (with_reducible refine Kd.C_alloc ?_ _) | (with_reducible refine Kd.C_drewN ?_ _) | (with_reducible refine Kd.C_drew ?_))); (case side4 => exact (Kd.R_reads' HO309.out).2.1); (case side5 => exact far_slice (IsS35.own_ne HI0.out HO309.out (by decide))); rintro e w84 ⟨rfl, hi, hb, hk⟩; refine ⟨_, rfl, ?_⟩; have n0_ := Aside0.mk (Kd.R_mono (Kd.R_keep (IsS35.apart (show IsS35 w0 _ g s0_0 t255 t256 from by repeat (first | (with_reducible first | exact HI0.out | apply IsS35.alloc | apply IsS35.drewN | apply IsS35.drew | apply IsS35.set_1 | apply IsS35.set_2) | exact HI0.out)) (by (with_reducible repeat (first | apply Kd.R_alloc | apply Kd.R_drewN | apply Kd.R_drew)); exact HO309.out) (by decide)) hk (fun _ h => h.2)) (fun _ h => h.1)); have n1_ := Aside0.mk (KeepBut.trans (by repeat (first | (with_reducible first | exact HK.out | apply KeepBut.set_ | apply keep_drewN | apply keep_drew | apply keep_alloc) | exact HK.out)) hk (.inl rfl)); have n2_ := Aside0.mk (hb); have n3_ := Aside0.mk (hi); clear HO309; clear HK; clear HB; clear HI0; have HO309 := n0_; have HK := n1_; have HB := n2_; have HI0 := n3_; clear n0_ n1_ n2_ n3_; (try clear hb); (try clear hb2); (try clear hk); (try clear hi)) | ((with_reducible refine gate_callee (f := 35) rfl ?_); refine goesL_ (some 101) rfl rfl Try.func35 (by kernel_rfl) rfl #[.int .i64 a1] rfl (by (try simp only [List.map_toArray, List.map_cons, List.map_nil]); first | done | rfl | (simp only [List.length_drop, List.length_take]; rfl)) ?_; (with_reducible refine (spec_l11Pad.calls kj4 a1 t313 _ A75.out).mono ?_); rintro e w' ⟨rfl, ⟨nd, rfl⟩⟩; refine ⟨_, rfl, ?_⟩) | ((with_reducible refine gate_callee (f := 35) rfl ?_); refine goesL_ (some 105) rfl rfl Try.func35 (by kernel_rfl) rfl #[.int .i64 a1] rfl (by (try simp only [List.map_toArray, List.map_cons, List.map_nil]); first | done | rfl | (simp only [List.length_drop, List.length_take]; rfl)) ?_; (with_reducible refine (spec_l11Pad.calls kj4 a1 t314 _ A78.out).mono ?_); rintro e w' ⟨rfl, ⟨nd, rfl⟩⟩; refine ⟨_, rfl, ?_⟩))
                      go_ret
                      exact ⟨by first | rfl | (simp [errW_none, errW_some] <;> rfl) | (simp [*, errW_none, errW_some] <;> rfl), by repeat (first | (with_reducible first | exact HI0.out | apply IsS35.alloc | apply IsS35.drewN | apply IsS35.drew | apply IsS35.set_1 | apply IsS35.set_2) | exact HI0.out), by repeat (first | (with_reducible first | exact HB.out | apply below_alloc | apply pw_below_drewN | apply below_drew1 | refine below_set ?_ (IsS35.ge HI0.out)) | exact HB.out), by repeat (first | (with_reducible first | exact HK.out | apply KeepBut.set_ | apply keep_drewN | apply keep_drew | apply keep_alloc) | exact HK.out)⟩
                    · rw [if_neg c80] at H
                      exact absurd H (by simp)
                  · rw [if_neg c79] at H
                    exact absurd H (by simp)
                · rw [if_neg c77] at H
                  exact absurd H (by simp)
              · rw [if_neg c76] at H
                exact absurd H (by simp)
            · rw [if_neg c74] at H
              exact absurd H (by simp)
          · rw [if_neg c72] at H
            have c72b0 : (x7_4 == 7) = false := beq_eq_false_iff_ne.mpr c72
            have c72b1 : (x7_4 != 7) = true := bne_iff_ne.mpr c72
            replace H := Option.bind_eq_some_iff.mp H
            obtain ⟨⟨t315, t316, t317⟩, A850, H⟩ := H
            replace H : ((spec_l11Pad.f kj4 a1).bind fun t318 => (if 1 + t318.size ≤ 9223372036854775807 then (if ((⟨#[10]⟩ : ByteArray) ++ t318).size + 6 ≤ 9223372036854775807 then ((spec_l01Of.f s0_0 t316 t317 (([(⟨#[10]⟩ : ByteArray), (⟨#[10]⟩ : ByteArray), (⟨#[10]⟩ : ByteArray), ((⟨#[10]⟩ : ByteArray) ++ t318) ++ (⟨#[32, 109, 111, 114, 101, 10]⟩ : ByteArray)] : List ByteArray))).bind fun bt322 => (if t315.size + bt322.1.size ≤ 9223372036854775807 then (some (t315 ++ bt322.1, bt322.2.1, bt322.2.2)) else (none))) else (none)) else (none))) = some (r1, r2, r3) := H
            have A85 := Aside0.mk A850
            clear A850
            replace H := Option.bind_eq_some_iff.mp H
            obtain ⟨t318, A860, H⟩ := H
            replace H : (if 1 + t318.size ≤ 9223372036854775807 then (if ((⟨#[10]⟩ : ByteArray) ++ t318).size + 6 ≤ 9223372036854775807 then ((spec_l01Of.f s0_0 t316 t317 (([(⟨#[10]⟩ : ByteArray), (⟨#[10]⟩ : ByteArray), (⟨#[10]⟩ : ByteArray), ((⟨#[10]⟩ : ByteArray) ++ t318) ++ (⟨#[32, 109, 111, 114, 101, 10]⟩ : ByteArray)] : List ByteArray))).bind fun bt322 => (if t315.size + bt322.1.size ≤ 9223372036854775807 then (some (t315 ++ bt322.1, bt322.2.1, bt322.2.2)) else (none))) else (none)) else (none)) = some (r1, r2, r3) := H
            have A86 := Aside0.mk A860
            clear A860
            by_cases c87 : 1 + t318.size ≤ 9223372036854775807
            · rw [if_pos c87] at H
              have c87b0 := eq_true c87
              have c87b1 : decide (1 + t318.size ≤ 9223372036854775807) = true := decide_eq_true c87
              try have c87b2 : (9223372036854775807 < 1 + t318.size) = False := eq_false (Nat.not_lt.2 c87)
              try (have c87b4 := c87b2; simp only [ByteArray.size_extract, Nat.min_self] at c87b4)
              by_cases c88 : ((⟨#[10]⟩ : ByteArray) ++ t318).size + 6 ≤ 9223372036854775807
              · rw [if_pos c88] at H
                have c88b0 := eq_true c88
                have c88b1 : decide (((⟨#[10]⟩ : ByteArray) ++ t318).size + 6 ≤ 9223372036854775807) = true := decide_eq_true c88
                try have c88b2 : (9223372036854775807 < ((⟨#[10]⟩ : ByteArray) ++ t318).size + 6) = False := eq_false (Nat.not_lt.2 c88)
                try have c88b5 : (9223372036854775807 < 1 + t318.size + 6) = False := by (have q := c88b2; simp only [ByteArray.size_append] at q; exact q)
                try (have c88b4 := c88b2; simp only [ByteArray.size_extract, Nat.min_self] at c88b4)
                obtain ⟨y319, hy319⟩ : ∃ y_ : List ByteArray, y_ = (([(⟨#[10]⟩ : ByteArray), (⟨#[10]⟩ : ByteArray), (⟨#[10]⟩ : ByteArray), ((⟨#[10]⟩ : ByteArray) ++ t318) ++ (⟨#[32, 109, 111, 114, 101, 10]⟩ : ByteArray)] : List ByteArray)) := ⟨_, rfl⟩
                replace H : ((spec_l01Of.f s0_0 t316 t317 y319).bind fun bt322 => (if t315.size + bt322.1.size ≤ 9223372036854775807 then (some (t315 ++ bt322.1, bt322.2.1, bt322.2.2)) else (none))) = some (r1, r2, r3) := by first | (rw [hy319]; with_reducible exact H) | (have H2_ := (Option.bind_some _ _).symm.trans H; rw [hy319]; with_reducible exact H2_) | (have H2_ := (Option.bind_some _ _).symm.trans H; with_reducible exact H2_) | with_reducible exact H | (rw [hy319]; exact H) | exact H
                have Ny319 := Aside0.mk hy319
                clear hy319
                replace H := Option.bind_eq_some_iff.mp H
                obtain ⟨⟨t322, t323, t324⟩, A890, H⟩ := H
                replace H : (if t315.size + t322.size ≤ 9223372036854775807 then (some (t315 ++ t322, t323, t324)) else (none)) = some (r1, r2, r3) := H
                have A89 := Aside0.mk A890
                clear A890
                by_cases c90 : t315.size + t322.size ≤ 9223372036854775807
                · rw [if_pos c90] at H
                  have c90b0 := eq_true c90
                  have c90b1 : decide (t315.size + t322.size ≤ 9223372036854775807) = true := decide_eq_true c90
                  try have c90b2 : (9223372036854775807 < t315.size + t322.size) = False := eq_false (Nat.not_lt.2 c90)
                  try (have c90b4 := c90b2; simp only [ByteArray.size_extract, Nat.min_self] at c90b4)
                  simp only [Option.some.injEq, Prod.mk.injEq] at H
                  obtain ⟨rfl, rfl, rfl⟩ := H
                  go_wp2_with (first | ((with_reducible refine gate_callee (f := 32) rfl ?_); refine goesL_ (some 109) rfl rfl Try.func32 (by kernel_rfl) rfl #[.pointer (some ⟨g, 0, none⟩)] rfl (by (try simp only [List.map_toArray, List.map_cons, List.map_nil]); first | done | rfl | (simp only [List.length_drop, List.length_take]; rfl)) ?_; (with_reducible refine (spec_l11Leaf.calls kj4 g s0_0 t255 t256 t315 t316 t317 w0 _ ?side1 ?side2 A85.out).mono ?_); (case side1 => repeat (first | (with_reducible first | exact HI0.out | apply IsS35.alloc | apply IsS35.drewN | apply IsS35.drew | apply IsS35.set_1 | apply IsS35.set_2) | exact HI0.out)); (case side2 => repeat (first | (with_reducible first | exact HB.out | apply below_alloc | apply pw_below_drewN | apply below_drew1 | refine below_set ?_ (IsS35.ge HI0.out)) | exact HB.out)); rintro e w91 ⟨rfl, hi, hb, hk⟩; refine ⟨_, rfl, ?_⟩; have n0_ := Aside0.mk (KeepBut.trans (by repeat (first | (with_reducible first | exact HK.out | apply KeepBut.set_ | apply keep_drewN | apply keep_drew | apply keep_alloc) | exact HK.out)) hk (.inl rfl)); have n1_ := Aside0.mk (hb); have n2_ := Aside0.mk (hi); clear HK; clear HB; clear HI0; have HK := n0_; have HB := n1_; have HI0 := n2_; clear n0_ n1_ n2_; (try clear hb); (try clear hb2); (try clear hk); (try clear hi)) | ((with_reducible refine gate_callee (f := 35) rfl ?_); refine goesL_ (some 112) rfl rfl Try.func35 (by kernel_rfl) rfl #[.int .i64 a1] rfl (by (try simp only [List.map_toArray, List.map_cons, List.map_nil]); first | done | rfl | (simp only [List.length_drop, List.length_take]; rfl)) ?_; (with_reducible refine (spec_l11Pad.calls kj4 a1 t318 _ A86.out).mono ?_); rintro e w' ⟨rfl, ⟨nd, rfl⟩⟩; refine ⟨_, rfl, ?_⟩) | ((with_reducible refine gate_dst (N := 115) rfl ?_); refine Kd.R_lit Kd.string _ 9 ?hg (N := 115) ?hd (xs := ([(⟨#[10]⟩ : ByteArray), (⟨#[10]⟩ : ByteArray), (⟨#[10]⟩ : ByteArray), ((⟨#[10]⟩ : ByteArray) ++ t318) ++ (⟨#[32, 109, 111, 114, 101, 10]⟩ : ByteArray)] : List ByteArray)) (inner := [.string (⟨#[10]⟩ : ByteArray), .string (⟨#[10]⟩ : ByteArray), .string (⟨#[10]⟩ : ByteArray), .string (((⟨#[10]⟩ : ByteArray) ++ t318) ++ (⟨#[32, 109, 111, 114, 101, 10]⟩ : ByteArray))]) (ok := fun _ => True) (okp := fun _ => True) ?hr ?hp (fun _ hk => hk) trivial (Below.refl _ _) (Nat.le_refl _) (by simp) ?_; (case hd => rfl); (case hg => rfl); (case hr => first | (go_simp; done) | (go_simp; rfl)); (case hp => exact (Reps.one (show Kd.M Kd.string _ _ _ (⟨#[10]⟩ : ByteArray) [.string (⟨#[10]⟩ : ByteArray)] from rfl) (Reps.one (show Kd.M Kd.string _ _ _ (⟨#[10]⟩ : ByteArray) [.string (⟨#[10]⟩ : ByteArray)] from rfl) (Reps.one (show Kd.M Kd.string _ _ _ (⟨#[10]⟩ : ByteArray) [.string (⟨#[10]⟩ : ByteArray)] from rfl) (Reps.one (show Kd.M Kd.string _ _ _ (((⟨#[10]⟩ : ByteArray) ++ t318) ++ (⟨#[32, 109, 111, 114, 101, 10]⟩ : ByteArray)) [.string (((⟨#[10]⟩ : ByteArray) ++ t318) ++ (⟨#[32, 109, 111, 114, 101, 10]⟩ : ByteArray))] from rfl) (Reps.none _ _)))))); intro v320 w92 ho93 hb hg_ hnew_; clear hg_ hnew_; (first | rw [← Ny319.out] at ho93 | (simp only [Int.reduceToNat] at ho93; rw [← Ny319.out] at ho93)); have n0_ := Aside0.mk (Kd.R_lower ho93 (keep_size (w := w) (g := g) (row := none) (by repeat (first | (with_reducible first | exact HK.out | apply KeepBut.set_ | apply keep_drewN | apply keep_drew | apply keep_alloc) | exact HK.out)))); have n1_ := Aside0.mk (IsS35.below (by repeat (first | (with_reducible first | exact HI0.out | apply IsS35.alloc | apply IsS35.drewN | apply IsS35.drew | apply IsS35.set_1 | apply IsS35.set_2) | exact HI0.out)) hb); have n2_ := Aside0.mk (KeepBut.trans (by repeat (first | (with_reducible first | exact HK.out | apply KeepBut.set_ | apply keep_drewN | apply keep_drew | apply keep_alloc) | exact HK.out)) (KeepBut.of_below hb g none) (.inl rfl)); have n3_ := Aside0.mk (below_step (by repeat (first | (with_reducible first | exact HB.out | apply below_alloc | apply pw_below_drewN | apply below_drew1 | refine below_set ?_ (IsS35.ge HI0.out)) | exact HB.out)) hb); clear HI0; clear HK; clear HB; have HO321 := n0_; have HI0 := n1_; have HK := n2_; have HB := n3_; clear n0_ n1_ n2_ n3_; clear hb ho93; obtain ⟨Ao94, co94, eo94⟩ := Kd.R_slice HO321.out; subst eo94) | ((with_reducible refine gate_callee (f := 28) rfl ?_); refine goesL_ (some 116) rfl rfl Try.func28 (by kernel_rfl) rfl #[.pointer (some ⟨g, 0, none⟩), .slice Ao94 y319.length co94] rfl (by (try simp only [List.map_toArray, List.map_cons, List.map_nil]); first | done | rfl | (simp only [List.length_drop, List.length_take]; rfl)) ?_; (with_reducible refine (spec_l01Of.calls g s0_0 t316 t317 _ _ y319 t322 t323 t324 w0 _ ?side1 ?side2 ?side3 ?side4 ?side5 A89.out).mono ?_); (case side1 => repeat (first | (with_reducible first | exact HI0.out | apply IsS35.alloc | apply IsS35.drewN | apply IsS35.drew | apply IsS35.set_1 | apply IsS35.set_2) | exact HI0.out)); (case side2 => repeat (first | (with_reducible first | exact HB.out | apply below_alloc | apply pw_below_drewN | apply below_drew1 | refine below_set ?_ (IsS35.ge HI0.out)) | exact HB.out)); (case side3 => repeat (first | exact (Kd.R_reads' HO321.out).2.2 | (with_reducible refine Kd.C_alloc ?_ _) | (with_reducible refine Kd.C_drewN ?_ _) | (with_reducible refine Kd.C_drew ?_))); (case side4 => exact (Kd.R_reads' HO321.out).2.1); (case side5 => exact far_slice (IsS35.own_ne HI0.out HO321.out (by decide))); rintro e w95 ⟨rfl, hi, hb, hk⟩; refine ⟨_, rfl, ?_⟩; have n0_ := Aside0.mk (Kd.R_mono (Kd.R_keep (IsS35.apart (show IsS35 w0 _ g s0_0 t316 t317 from by repeat (first | (with_reducible first | exact HI0.out | apply IsS35.alloc | apply IsS35.drewN | apply IsS35.drew | apply IsS35.set_1 | apply IsS35.set_2) | exact HI0.out)) (by (with_reducible repeat (first | apply Kd.R_alloc | apply Kd.R_drewN | apply Kd.R_drew)); exact HO321.out) (by decide)) hk (fun _ h => h.2)) (fun _ h => h.1)); have n1_ := Aside0.mk (KeepBut.trans (by repeat (first | (with_reducible first | exact HK.out | apply KeepBut.set_ | apply keep_drewN | apply keep_drew | apply keep_alloc) | exact HK.out)) hk (.inl rfl)); have n2_ := Aside0.mk (hb); have n3_ := Aside0.mk (hi); clear HO321; clear HK; clear HB; clear HI0; have HO321 := n0_; have HK := n1_; have HB := n2_; have HI0 := n3_; clear n0_ n1_ n2_ n3_; (try clear hb); (try clear hb2); (try clear hk); (try clear hi)))
                  go_ret
                  exact ⟨by first | rfl | (simp [errW_none, errW_some] <;> rfl) | (simp [*, errW_none, errW_some] <;> rfl), by repeat (first | (with_reducible first | exact HI0.out | apply IsS35.alloc | apply IsS35.drewN | apply IsS35.drew | apply IsS35.set_1 | apply IsS35.set_2) | exact HI0.out), by repeat (first | (with_reducible first | exact HB.out | apply below_alloc | apply pw_below_drewN | apply below_drew1 | refine below_set ?_ (IsS35.ge HI0.out)) | exact HB.out), by repeat (first | (with_reducible first | exact HK.out | apply KeepBut.set_ | apply keep_drewN | apply keep_drew | apply keep_alloc) | exact HK.out)⟩
                · rw [if_neg c90] at H
                  exact absurd H (by simp)
              · rw [if_neg c88] at H
                exact absurd H (by simp)
            · rw [if_neg c87] at H
              exact absurd H (by simp)

theorem spec_l11Value0.calls (k : Nat) (g : Nat) (s0_0 : List Int) (s0_1 : Int) (s0_2 : Int) (a1 : Int) (a2 : Int) (r1 : ByteArray) (r2 : Int) (r3 : Int) (w0 w : World) (hI : IsS35 w0 w g s0_0 s0_1 s0_2) (hB : Below w0.heap.size w0 w) (h : spec_l11Value0.f k s0_0 s0_1 s0_2 a1 a2 = some (r1, r2, r3)) :
    Calls Try.prog 36 #[.pointer (some ⟨g, 0, none⟩), .int .i64 a1, .int .i64 a2] w fun e w' => e = .returned (.string r1) ∧ IsS35 w0 w' g s0_0 r2 r3 ∧ Below w0.heap.size w0 w' ∧ KeepBut w w' g none :=
  spec_l11Value0.calls_of k (spec_l11Draw.calls k) g s0_0 s0_1 s0_2 a1 a2 r1 r2 r3 w0 w hI hB h
end Go.Proofs.Ytmkfodlmddbdeaa.PFnLines
