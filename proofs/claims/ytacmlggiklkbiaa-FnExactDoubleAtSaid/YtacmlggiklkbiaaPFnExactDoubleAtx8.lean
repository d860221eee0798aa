-- Written by a program of this session, out of the translation.
import Derived.Test.YtacmlggiklkbiaaPFnExactDoubleAtx0
import Derived.Test.YtacmlggiklkbiaaPFnExactDoubleAtx4
import Derived.Test.YtacmlggiklkbiaaPFnExactDoubleAtx5
import Derived.Test.YtacmlggiklkbiaaPFnExactDoubleAtx6
import Derived.Test.YtacmlggiklkbiaaPFnExactDoubleAtx7
namespace Go.Proofs.Ytacmlggiklkbiaa.PFnExactDoubleAt
open Go.RowKit Go.Proofs.YtacmlggiklkbiaaW.PrintWords Go.Proofs.YtacmlggiklkbiaaW.PrintLast Go.Proofs.YtacmlggiklkbiaaW.PrintMore
attribute [local go_sem] max2_int min2_int max_two min_two max_three min_three max_four min_four   -- for this text's walks alone
set_option linter.unusedVariables false
set_option linter.unusedSimpArgs false

/-! ### impl_EscapeAt: function 32 -/
def impl_EscapeAt.j0 : Nat → ByteArray → Int → Bool → Option (ByteArray × Int)
  | 0, _, _, _ => none
  | k + 1, x0, x1, x25 => if x25 = true then (some ((⟨#[]⟩ : ByteArray), 0)) else ((impl_byteAt.f x0 (wrap64 (x1 + 1))).bind fun t201 => ((impl_shortEscape.f k t201).bind fun t202 => (if t202 ≥ 0 then ((impl_RuneBytes.f t202).bind fun t203 => (some (t203, wrap64 (x1 + 2)))) else ((impl_hexValue.f k x0 (wrap64 (x1 + 2)) (Mine.mapGet [(120, 2), (117, 4), (85, 8)] t201)).bind fun bt204 => ((impl_RuneBytes.f bt204.1).bind fun t206 => (if (Mine.mapGet [(120, 2), (117, 4), (85, 8)] t201) = 0 then (some ((⟨#[]⟩ : ByteArray), 0)) else (if bt204.2 = true then (if t206.toList = ([] : List UInt8) then (some ((⟨#[]⟩ : ByteArray), 0)) else (some (t206, wrap64 ((wrap64 (x1 + 2)) + (Mine.mapGet [(120, 2), (117, 4), (85, 8)] t201))))) else (some ((⟨#[]⟩ : ByteArray), 0)))))))))
def impl_EscapeAt.f (k : Nat) (a0 : ByteArray) (a1 : Int) : Option (ByteArray × Int) := (impl_spot.f a0 a1).bind fun t199 => ((impl_byteAt.f a0 t199).bind fun t200 => (if t200 = 92 then (impl_EscapeAt.j0 k a0 t199 (decide ((wrap64 (t199 + 1)) ≥ (a0.size : Int)))) else (impl_EscapeAt.j0 k a0 t199 true)))
theorem impl_EscapeAt.mono_l : ∀ k, (∀ y0 y1 y2, LeO (impl_EscapeAt.j0 k y0 y1 y2) (impl_EscapeAt.j0 (k + 1) y0 y1 y2))
  | 0 => fun _ _ _ r h => by simp [impl_EscapeAt.j0] at h
  | k + 1 => by
    have ih0 := impl_EscapeAt.mono_l k
    · intro y0 y1 y2
      unfold impl_EscapeAt.j0
      repeat' first
      | (with_reducible exact ih0 _ _ _)
      | (with_reducible exact impl_hexValue.mono _ _ _ _)
      | (with_reducible exact impl_shortEscape.mono _ _)
      | (with_reducible exact LeO.refl _)
      | (with_reducible exact LeO.none _)
      | (with_reducible refine LeO.ite ?_ ?_)
      | (with_reducible refine LeO.bind ?_ (fun _ => ?_))
      | exact ih0 _ _ _
      | exact impl_hexValue.mono _ _ _ _
      | exact impl_shortEscape.mono _ _
      | exact LeO.none _
      | refine LeO.ite ?_ ?_
      | refine LeO.bind ?_ (fun _ => ?_)
theorem impl_EscapeAt.mono : ∀ a0 a1 k, LeO (impl_EscapeAt.f k a0 a1) (impl_EscapeAt.f (k + 1) a0 a1) := by
  intro a0 a1 k
  have ih0 := impl_EscapeAt.mono_l k
  unfold impl_EscapeAt.f
  repeat' first
      | (with_reducible exact ih0 _ _ _)
      | (with_reducible exact impl_hexValue.mono _ _ _ _)
      | (with_reducible exact impl_shortEscape.mono _ _)
      | (with_reducible exact LeO.refl _)
      | (with_reducible exact LeO.none _)
      | (with_reducible refine LeO.ite ?_ ?_)
      | (with_reducible refine LeO.bind ?_ (fun _ => ?_))
      | exact ih0 _ _ _
      | exact impl_hexValue.mono _ _ _ _
      | exact impl_shortEscape.mono _ _
      | exact LeO.none _
      | refine LeO.ite ?_ ?_
      | refine LeO.bind ?_ (fun _ => ?_)
set_option maxHeartbeats 8000000 in
set_option maxRecDepth 100000 in
theorem impl_EscapeAt.calls (k : Nat) (a0 : ByteArray) (a1 : Int) (r1 : ByteArray) (r2 : Int) (w : World) (h : impl_EscapeAt.f k a0 a1 = some (r1, r2)) :
    Calls Try.prog 32 #[.string a0, .int .i64 a1] w fun e w' => e = .returned (.tuple #[.string r1, .int .i64 r2]) ∧ Below w.heap.size w w' := by
  have HB := Aside0.mk (Below.refl w.heap.size w)
  have H : ((impl_spot.f a0 a1).bind fun t199 => ((impl_byteAt.f a0 t199).bind fun t200 => (if t200 = 92 then (impl_EscapeAt.j0 k a0 t199 (decide ((wrap64 (t199 + 1)) ≥ (a0.size : Int)))) else (impl_EscapeAt.j0 k a0 t199 true)))) = some (r1, r2) := h
  clear h
  replace H := Option.bind_eq_some_iff.mp H
  obtain ⟨t199, A30, H⟩ := H
  replace H : ((impl_byteAt.f a0 t199).bind fun t200 => (if t200 = 92 then (impl_EscapeAt.j0 k a0 t199 (decide ((wrap64 (t199 + 1)) ≥ (a0.size : Int)))) else (impl_EscapeAt.j0 k a0 t199 true))) = some (r1, r2) := H
  have A3 := Aside0.mk A30
  clear A30
  have HC4 := Aside0.mk H
  clear H
  go_enter Try.func32, Try.ntmps32
  go_upto_region 2 with (first | ((with_reducible refine gate_callee (f := 29) rfl ?_); refine goesL_ (some 14) rfl rfl Try.func29 (by kernel_rfl) rfl #[.string a0, .int .i64 a1] rfl (by (try simp only [List.map_toArray, List.map_cons, List.map_nil]); first | done | rfl | (simp only [List.length_drop, List.length_take]; rfl)) ?_; (with_reducible refine (impl_spot.calls a0 a1 t199 _ A3.out).mono ?_); rintro e w5 ⟨rfl, hb⟩; refine ⟨_, rfl, ?_⟩; have n0_ := Aside0.mk (below_step (by repeat (first | (with_reducible first | exact HB.out | apply below_alloc | apply pw_below_drewN | apply below_drew1) | exact HB.out)) hb); clear HB; have HB := n0_; clear n0_; (try clear hb); (try clear hb2); (try clear hk); (try clear hi)))
  (try simp only [Act.put, List.setIfInBounds_toArray, List.set_cons_zero, List.set_cons_succ])
  go_cut [25] (fun v25 wc => ∃ (kq : Nat) (x25_3 : Bool), v25 = .bool x25_3 ∧ Aside0 (impl_EscapeAt.j0 kq a0 t199 x25_3 = some (r1, r2)) ∧ Aside0 (kq ≤ k) ∧ Aside0 (Below w.heap.size w wc))
  case first =>
    have H := HC4.out
    clear HC4
    replace H := Option.bind_eq_some_iff.mp H
    obtain ⟨t200, A60, H⟩ := H
    replace H : (if t200 = 92 then (impl_EscapeAt.j0 k a0 t199 (decide ((wrap64 (t199 + 1)) ≥ (a0.size : Int)))) else (impl_EscapeAt.j0 k a0 t199 true)) = some (r1, r2) := H
    have A6 := Aside0.mk A60
    clear A60
    by_cases c7 : t200 = 92
    · rw [if_pos c7] at H
      have c7b0 : (t200 == 92) = true := beq_iff_eq.mpr c7
      have c7b1 : (t200 != 92) = false := bne_eq_false_iff_eq.mpr c7
      clear c7
      (first | rw [c7b0] | (simp only [i64_w, i32_w]; rw [c7b0]) | skip)
      have H' := Aside0.mk H
      clear H
      go_wp2_with (first | ((with_reducible refine gate_dst (N := 38) rfl ?_); refine Go.Proofs.Ytacmlggiklkbiaa.Mine.map_make ?hg (t := 64) ?ho (below_size (by repeat (first | (with_reducible first | exact HB.out | apply below_alloc | apply pw_below_drewN | apply below_drew1) | exact HB.out))) (by repeat (first | (with_reducible first | exact HB.out | apply below_alloc | apply pw_below_drewN | apply below_drew1) | exact HB.out)) ?_; (case hg => rfl); (case ho => rfl); intro w_1 gM38 hm_ hg_ hb_; have n0_ := Aside0.mk hm_; have n1_ := Aside0.mk hg_; have n2_ := Aside0.mk hb_; clear HB; have HM38 := n0_; have GgM38 := n1_; have HB := n2_; clear n0_ n1_ n2_; clear hm_ hg_ hb_) | (refine Go.Proofs.Ytacmlggiklkbiaa.Mine.map_insert (g := gM38) (l := []) ?hg ?hd (t := 64) (kt := 3) (et := 3) (.tmp 38) 120 2 ?ho Try.underlying64 Try.underlying3 ?hm HM38.out GgM38.out (by decide) (by repeat (first | (with_reducible first | exact HB.out | apply below_alloc | apply pw_below_drewN | apply below_drew1) | exact HB.out)) ?_; (case ho => rfl); (case hg => rfl); (case hd => rfl); (case hm => first | rfl | (go_simp; done) | (go_simp; rfl)); intro w_1 hm_ hb_; have n0_ := Aside0.mk hm_; have n1_ := Aside0.mk hb_; clear HM38; clear HB; have HM38 := n0_; have HB := n1_; clear n0_ n1_; clear hm_ hb_) | (refine Go.Proofs.Ytacmlggiklkbiaa.Mine.map_insert (g := gM38) (l := [(120, 2)]) ?hg ?hd (t := 64) (kt := 3) (et := 3) (.tmp 38) 117 4 ?ho Try.underlying64 Try.underlying3 ?hm HM38.out GgM38.out (by decide) (by repeat (first | (with_reducible first | exact HB.out | apply below_alloc | apply pw_below_drewN | apply below_drew1) | exact HB.out)) ?_; (case ho => rfl); (case hg => rfl); (case hd => rfl); (case hm => first | rfl | (go_simp; done) | (go_simp; rfl)); intro w_1 hm_ hb_; have n0_ := Aside0.mk hm_; have n1_ := Aside0.mk hb_; clear HM38; clear HB; have HM38 := n0_; have HB := n1_; clear n0_ n1_; clear hm_ hb_) | (refine Go.Proofs.Ytacmlggiklkbiaa.Mine.map_insert (g := gM38) (l := [(120, 2), (117, 4)]) ?hg ?hd (t := 64) (kt := 3) (et := 3) (.tmp 38) 85 8 ?ho Try.underlying64 Try.underlying3 ?hm HM38.out GgM38.out (by decide) (by repeat (first | (with_reducible first | exact HB.out | apply below_alloc | apply pw_below_drewN | apply below_drew1) | exact HB.out)) ?_; (case ho => rfl); (case hg => rfl); (case hd => rfl); (case hm => first | rfl | (go_simp; done) | (go_simp; rfl)); intro w_1 hm_ hb_; have n0_ := Aside0.mk hm_; have n1_ := Aside0.mk hb_; clear HM38; clear HB; have HM38 := n0_; have HB := n1_; clear n0_ n1_; clear hm_ hb_) | ((with_reducible refine gate_dst (N := 41) rfl ?_); refine Go.Proofs.Ytacmlggiklkbiaa.Mine.map_look (w0 := w) (base := w.heap.size) (g := gM38) (l := [(120, 2), (117, 4), (85, 8)]) ?hg (t := 64) (kt := 3) (et := 3) (.tmp 39) (.tmp 40) ?ho Try.underlying64 Try.underlying3 Try.underlying3 ?kk ?hm ?hx HM38.out (Try.zeroValue3 _) ?_; (case ho => rfl); (case hg => rfl); (case hm => first | rfl | (go_simp; done) | (go_simp; rfl)); (case hx => first | rfl | (go_simp; done) | (go_simp; rfl))) | ((with_reducible refine gate_callee (f := 30) rfl ?_); refine goesL_ (some 17) rfl rfl Try.func30 (by kernel_rfl) rfl #[.string a0, .int .i64 t199] rfl (by (try simp only [List.map_toArray, List.map_cons, List.map_nil]); first | done | rfl | (simp only [List.length_drop, List.length_take]; rfl)) ?_; (with_reducible refine (impl_byteAt.calls a0 t199 t200 _ A6.out).mono ?_); rintro e w8 ⟨rfl, hb⟩; refine ⟨_, rfl, ?_⟩; have n0_ := Aside0.mk (below_step (by repeat (first | (with_reducible first | exact HB.out | apply below_alloc | apply pw_below_drewN | apply below_drew1) | exact HB.out)) hb); clear HB; have HB := n0_; clear n0_; (try clear hb); (try clear hb2); (try clear hk); (try clear hi)))
      go_meet
      case rel => exact ⟨_, (decide ((wrap64 (t199 + 1)) ≥ (a0.size : Int))), (by first | rfl | (simp; done) | (simp [*]; done)), H', ⟨by first | omega | exact Nat.le_refl _⟩, ⟨by repeat (first | (with_reducible first | exact HB.out | apply below_alloc | apply pw_below_drewN | apply below_drew1) | exact HB.out)⟩⟩
    · rw [if_neg c7] at H
      have c7b0 : (t200 == 92) = false := beq_eq_false_iff_ne.mpr c7
      have c7b1 : (t200 != 92) = true := bne_iff_ne.mpr c7
      (first | rw [c7b0] | (simp only [i64_w, i32_w]; rw [c7b0]) | skip)
      have H' := Aside0.mk H
      clear H
      go_wp2_with (first | ((with_reducible refine gate_dst (N := 38) rfl ?_); refine Go.Proofs.Ytacmlggiklkbiaa.Mine.map_make ?hg (t := 64) ?ho (below_size (by repeat (first | (with_reducible first | exact HB.out | apply below_alloc | apply pw_below_drewN | apply below_drew1) | exact HB.out))) (by repeat (first | (with_reducible first | exact HB.out | apply below_alloc | apply pw_below_drewN | apply below_drew1) | exact HB.out)) ?_; (case hg => rfl); (case ho => rfl); intro w_1 gM38 hm_ hg_ hb_; have n0_ := Aside0.mk hm_; have n1_ := Aside0.mk hg_; have n2_ := Aside0.mk hb_; clear HB; have HM38 := n0_; have GgM38 := n1_; have HB := n2_; clear n0_ n1_ n2_; clear hm_ hg_ hb_) | (refine Go.Proofs.Ytacmlggiklkbiaa.Mine.map_insert (g := gM38) (l := []) ?hg ?hd (t := 64) (kt := 3) (et := 3) (.tmp 38) 120 2 ?ho Try.underlying64 Try.underlying3 ?hm HM38.out GgM38.out (by decide) (by repeat (first | (with_reducible first | exact HB.out | apply below_alloc | apply pw_below_drewN | apply below_drew1) | exact HB.out)) ?_; (case ho => rfl); (case hg => rfl); (case hd => rfl); (case hm => first | rfl | (go_simp; done) | (go_simp; rfl)); intro w_1 hm_ hb_; have n0_ := Aside0.mk hm_; have n1_ := Aside0.mk hb_; clear HM38; clear HB; have HM38 := n0_; have HB := n1_; clear n0_ n1_; clear hm_ hb_) | (refine Go.Proofs.Ytacmlggiklkbiaa.Mine.map_insert (g := gM38) (l := [(120, 2)]) ?hg ?hd (t := 64) (kt := 3) (et := 3) (.tmp 38) 117 4 ?ho Try.underlying64 Try.underlying3 ?hm HM38.out GgM38.out (by decide) (by repeat (first | (with_reducible first | exact HB.out | apply below_alloc | apply pw_below_drewN | apply below_drew1) | exact HB.out)) ?_; (case ho => rfl); (case hg => rfl); (case hd => rfl); (case hm => first | rfl | (go_simp; done) | (go_simp; rfl)); intro w_1 hm_ hb_; have n0_ := Aside0.mk hm_; have n1_ := Aside0.mk hb_; clear HM38; clear HB; have HM38 := n0_; have HB := n1_; clear n0_ n1_; clear hm_ hb_) | (refine Go.Proofs.Ytacmlggiklkbiaa.Mine.map_insert (g := gM38) (l := [(120, 2), (117, 4)]) ?hg ?hd (t := 64) (kt := 3) (et := 3) (.tmp 38) 85 8 ?ho Try.underlying64 Try.underlying3 ?hm HM38.out GgM38.out (by decide) (by repeat (first | (with_reducible first | exact HB.out | apply below_alloc | apply pw_below_drewN | apply below_drew1) | exact HB.out)) ?_; (case ho => rfl); (case hg => rfl); (case hd => rfl); (case hm => first | rfl | (go_simp; done) | (go_simp; rfl)); intro w_1 hm_ hb_; have n0_ := Aside0.mk hm_; have n1_ := Aside0.mk hb_; clear HM38; clear HB; have HM38 := n0_; have HB := n1_; clear n0_ n1_; clear hm_ hb_) | ((with_reducible refine gate_dst (N := 41) rfl ?_); refine Go.Proofs.Ytacmlggiklkbiaa.Mine.map_look (w0 := w) (base := w.heap.size) (g := gM38) (l := [(120, 2), (117, 4), (85, 8)]) ?hg (t := 64) (kt := 3) (et := 3) (.tmp 39) (.tmp 40) ?ho Try.underlying64 Try.underlying3 Try.underlying3 ?kk ?hm ?hx HM38.out (Try.zeroValue3 _) ?_; (case ho => rfl); (case hg => rfl); (case hm => first | rfl | (go_simp; done) | (go_simp; rfl)); (case hx => first | rfl | (go_simp; done) | (go_simp; rfl))) | ((with_reducible refine gate_callee (f := 30) rfl ?_); refine goesL_ (some 17) rfl rfl Try.func30 (by kernel_rfl) rfl #[.string a0, .int .i64 t199] rfl (by (try simp only [List.map_toArray, List.map_cons, List.map_nil]); first | done | rfl | (simp only [List.length_drop, List.length_take]; rfl)) ?_; (with_reducible refine (impl_byteAt.calls a0 t199 t200 _ A6.out).mono ?_); rintro e w9 ⟨rfl, hb⟩; refine ⟨_, rfl, ?_⟩; have n0_ := Aside0.mk (below_step (by repeat (first | (with_reducible first | exact HB.out | apply below_alloc | apply pw_below_drewN | apply below_drew1) | exact HB.out)) hb); clear HB; have HB := n0_; clear n0_; (try clear hb); (try clear hb2); (try clear hk); (try clear hi)))
      go_meet
      case rel => exact ⟨_, (true), (by first | rfl | (simp; done) | (simp [*]; done)), H', ⟨by first | omega | exact Nat.le_refl _⟩, ⟨by repeat (first | (with_reducible first | exact HB.out | apply below_alloc | apply pw_below_drewN | apply below_drew1) | exact HB.out)⟩⟩
  case rest =>
    clear HC4
    try clear c2
    try clear p2
    try clear c3
    try clear p6
    try clear c7
    try clear c7b0
    try clear c7b1
    obtain ⟨kq, x25_3, rfl, HA, HJ3, HB⟩ := hcut
    cases kq with
    | zero => exact absurd HA.out (by simp [impl_EscapeAt.j0])
    | succ kj3 =>
      have H := HA.out
      clear HA
      simp only [impl_EscapeAt.j0] at H
      by_cases c10 : x25_3 = true
      · subst c10
        have H1 : (some ((⟨#[]⟩ : ByteArray), 0)) = some (r1, r2) := by rw [if_pos rfl] at H; exact H
        clear H
        have H := H1
        clear H1
        simp only [Option.some.injEq, Prod.mk.injEq] at H
        obtain ⟨rfl, rfl⟩ := H
        go_wp2_with (first | ((with_reducible refine gate_dst (N := 38) rfl ?_); refine Go.Proofs.Ytacmlggiklkbiaa.Mine.map_make ?hg (t := 64) ?ho (below_size (by repeat (first | (with_reducible first | exact HB.out | apply below_alloc | apply pw_below_drewN | apply below_drew1) | exact HB.out))) (by repeat (first | (with_reducible first | exact HB.out | apply below_alloc | apply pw_below_drewN | apply below_drew1) | exact HB.out)) ?_; (case hg => rfl); (case ho => rfl); intro w_1 gM38 hm_ hg_ hb_; have n0_ := Aside0.mk hm_; have n1_ := Aside0.mk hg_; have n2_ := Aside0.mk hb_; clear HB; have HM38 := n0_; have GgM38 := n1_; have HB := n2_; clear n0_ n1_ n2_; clear hm_ hg_ hb_) | (refine Go.Proofs.Ytacmlggiklkbiaa.Mine.map_insert (g := gM38) (l := []) ?hg ?hd (t := 64) (kt := 3) (et := 3) (.tmp 38) 120 2 ?ho Try.underlying64 Try.underlying3 ?hm HM38.out GgM38.out (by decide) (by repeat (first | (with_reducible first | exact HB.out | apply below_alloc | apply pw_below_drewN | apply below_drew1) | exact HB.out)) ?_; (case ho => rfl); (case hg => rfl); (case hd => rfl); (case hm => first | rfl | (go_simp; done) | (go_simp; rfl)); intro w_1 hm_ hb_; have n0_ := Aside0.mk hm_; have n1_ := Aside0.mk hb_; clear HM38; clear HB; have HM38 := n0_; have HB := n1_; clear n0_ n1_; clear hm_ hb_) | (refine Go.Proofs.Ytacmlggiklkbiaa.Mine.map_insert (g := gM38) (l := [(120, 2)]) ?hg ?hd (t := 64) (kt := 3) (et := 3) (.tmp 38) 117 4 ?ho Try.underlying64 Try.underlying3 ?hm HM38.out GgM38.out (by decide) (by repeat (first | (with_reducible first | exact HB.out | apply below_alloc | apply pw_below_drewN | apply below_drew1) | exact HB.out)) ?_; (case ho => rfl); (case hg => rfl); (case hd => rfl); (case hm => first | rfl | (go_simp; done) | (go_simp; rfl)); intro w_1 hm_ hb_; have n0_ := Aside0.mk hm_; have n1_ := Aside0.mk hb_; clear HM38; clear HB; have HM38 := n0_; have HB := n1_; clear n0_ n1_; clear hm_ hb_) | (refine Go.Proofs.Ytacmlggiklkbiaa.Mine.map_insert (g := gM38) (l := [(120, 2), (117, 4)]) ?hg ?hd (t := 64) (kt := 3) (et := 3) (.tmp 38) 85 8 ?ho Try.underlying64 Try.underlying3 ?hm HM38.out GgM38.out (by decide) (by repeat (first | (with_reducible first | exact HB.out | apply below_alloc | apply pw_below_drewN | apply below_drew1) | exact HB.out)) ?_; (case ho => rfl); (case hg => rfl); (case hd => rfl); (case hm => first | rfl | (go_simp; done) | (go_simp; rfl)); intro w_1 hm_ hb_; have n0_ := Aside0.mk hm_; have n1_ := Aside0.mk hb_; clear HM38; clear HB; have HM38 := n0_; have HB := n1_; clear n0_ n1_; clear hm_ hb_) | ((with_reducible refine gate_dst (N := 41) rfl ?_); refine Go.Proofs.Ytacmlggiklkbiaa.Mine.map_look (w0 := w) (base := w.heap.size) (g := gM38) (l := [(120, 2), (117, 4), (85, 8)]) ?hg (t := 64) (kt := 3) (et := 3) (.tmp 39) (.tmp 40) ?ho Try.underlying64 Try.underlying3 Try.underlying3 ?kk ?hm ?hx HM38.out (Try.zeroValue3 _) ?_; (case ho => rfl); (case hg => rfl); (case hm => first | rfl | (go_simp; done) | (go_simp; rfl)); (case hx => first | rfl | (go_simp; done) | (go_simp; rfl))))
        go_ret2
        exact ⟨by first | rfl | (simp [errW_none, errW_some] <;> rfl) | (simp [*, errW_none, errW_some] <;> rfl), by repeat (first | (with_reducible first | exact HB.out | apply below_alloc | apply pw_below_drewN | apply below_drew1) | exact HB.out)⟩
      · replace c10 := Bool.eq_false_iff.mpr c10
        subst c10
        have H1 : ((impl_byteAt.f a0 (wrap64 (t199 + 1))).bind fun t201 => ((impl_shortEscape.f kj3 t201).bind fun t202 => (if t202 ≥ 0 then ((impl_RuneBytes.f t202).bind fun t203 => (some (t203, wrap64 (t199 + 2)))) else ((impl_hexValue.f kj3 a0 (wrap64 (t199 + 2)) (Mine.mapGet [(120, 2), (117, 4), (85, 8)] t201)).bind fun bt204 => ((impl_RuneBytes.f bt204.1).bind fun t206 => (if (Mine.mapGet [(120, 2), (117, 4), (85, 8)] t201) = 0 then (some ((⟨#[]⟩ : ByteArray), 0)) else (if bt204.2 = true then (if t206.toList = ([] : List UInt8) then (some ((⟨#[]⟩ : ByteArray), 0)) else (some (t206, wrap64 ((wrap64 (t199 + 2)) + (Mine.mapGet [(120, 2), (117, 4), (85, 8)] t201))))) else (some ((⟨#[]⟩ : ByteArray), 0))))))))) = some (r1, r2) := by rw [if_neg (show ¬ (false = true) by decide)] at H; exact H
        clear H
        have H := H1
        clear H1
        replace H := Option.bind_eq_some_iff.mp H
        obtain ⟨t201, A110, H⟩ := H
        replace H : ((impl_shortEscape.f kj3 t201).bind fun t202 => (if t202 ≥ 0 then ((impl_RuneBytes.f t202).bind fun t203 => (some (t203, wrap64 (t199 + 2)))) else ((impl_hexValue.f kj3 a0 (wrap64 (t199 + 2)) (Mine.mapGet [(120, 2), (117, 4), (85, 8)] t201)).bind fun bt204 => ((impl_RuneBytes.f bt204.1).bind fun t206 => (if (Mine.mapGet [(120, 2), (117, 4), (85, 8)] t201) = 0 then (some ((⟨#[]⟩ : ByteArray), 0)) else (if bt204.2 = true then (if t206.toList = ([] : List UInt8) then (some ((⟨#[]⟩ : ByteArray), 0)) else (some (t206, wrap64 ((wrap64 (t199 + 2)) + (Mine.mapGet [(120, 2), (117, 4), (85, 8)] t201))))) else (some ((⟨#[]⟩ : ByteArray), 0)))))))) = some (r1, r2) := H
        have A11 := Aside0.mk A110
        clear A110
        replace H := Option.bind_eq_some_iff.mp H
        obtain ⟨t202, A120, H⟩ := H
        replace H : (if t202 ≥ 0 then ((impl_RuneBytes.f t202).bind fun t203 => (some (t203, wrap64 (t199 + 2)))) else ((impl_hexValue.f kj3 a0 (wrap64 (t199 + 2)) (Mine.mapGet [(120, 2), (117, 4), (85, 8)] t201)).bind fun bt204 => ((impl_RuneBytes.f bt204.1).bind fun t206 => (if (Mine.mapGet [(120, 2), (117, 4), (85, 8)] t201) = 0 then (some ((⟨#[]⟩ : ByteArray), 0)) else (if bt204.2 = true then (if t206.toList = ([] : List UInt8) then (some ((⟨#[]⟩ : ByteArray), 0)) else (some (t206, wrap64 ((wrap64 (t199 + 2)) + (Mine.mapGet [(120, 2), (117, 4), (85, 8)] t201))))) else (some ((⟨#[]⟩ : ByteArray), 0))))))) = some (r1, r2) := H
        have A12 := Aside0.mk A120
        clear A120
        by_cases c13 : t202 ≥ 0
        · rw [if_pos c13] at H
          have c13b0 : decide (0 ≤ t202) = true := decide_eq_true c13
          clear c13
          replace H := Option.bind_eq_some_iff.mp H
          obtain ⟨t203, A140, H⟩ := H
          replace H : (some (t203, wrap64 (t199 + 2))) = some (r1, r2) := H
          have A14 := Aside0.mk A140
          clear A140
          simp only [Option.some.injEq, Prod.mk.injEq] at H
          obtain ⟨rfl, rfl⟩ := H
          go_wp2_with (first | ((with_reducible refine gate_dst (N := 38) rfl ?_); refine Go.Proofs.Ytacmlggiklkbiaa.Mine.map_make ?hg (t := 64) ?ho (below_size (by repeat (first | (with_reducible first | exact HB.out | apply below_alloc | apply pw_below_drewN | apply below_drew1) | exact HB.out))) (by repeat (first | (with_reducible first | exact HB.out | apply below_alloc | apply pw_below_drewN | apply below_drew1) | exact HB.out)) ?_; (case hg => rfl); (case ho => rfl); intro w_1 gM38 hm_ hg_ hb_; have n0_ := Aside0.mk hm_; have n1_ := Aside0.mk hg_; have n2_ := Aside0.mk hb_; clear HB; have HM38 := n0_; have GgM38 := n1_; have HB := n2_; clear n0_ n1_ n2_; clear hm_ hg_ hb_) | (refine Go.Proofs.Ytacmlggiklkbiaa.Mine.map_insert (g := gM38) (l := []) ?hg ?hd (t := 64) (kt := 3) (et := 3) (.tmp 38) 120 2 ?ho Try.underlying64 Try.underlying3 ?hm HM38.out GgM38.out (by decide) (by repeat (first | (with_reducible first | exact HB.out | apply below_alloc | apply pw_below_drewN | apply below_drew1) | exact HB.out)) ?_; (case ho => rfl); (case hg => rfl); (case hd => rfl); (case hm => first | rfl | (go_simp; done) | (go_simp; rfl)); intro w_1 hm_ hb_; have n0_ := Aside0.mk hm_; have n1_ := Aside0.mk hb_; clear HM38; clear HB; have HM38 := n0_; have HB := n1_; clear n0_ n1_; clear hm_ hb_) | (refine Go.Proofs.Ytacmlggiklkbiaa.Mine.map_insert (g := gM38) (l := [(120, 2)]) ?hg ?hd (t := 64) (kt := 3) (et := 3) (.tmp 38) 117 4 ?ho Try.underlying64 Try.underlying3 ?hm HM38.out GgM38.out (by decide) (by repeat (first | (with_reducible first | exact HB.out | apply below_alloc | apply pw_below_drewN | apply below_drew1) | exact HB.out)) ?_; (case ho => rfl); (case hg => rfl); (case hd => rfl); (case hm => first | rfl | (go_simp; done) | (go_simp; rfl)); intro w_1 hm_ hb_; have n0_ := Aside0.mk hm_; have n1_ := Aside0.mk hb_; clear HM38; clear HB; have HM38 := n0_; have HB := n1_; clear n0_ n1_; clear hm_ hb_) | (refine Go.Proofs.Ytacmlggiklkbiaa.Mine.map_insert (g := gM38) (l := [(120, 2), (117, 4)]) ?hg ?hd (t := 64) (kt := 3) (et := 3) (.tmp 38) 85 8 ?ho Try.underlying64 Try.underlying3 ?hm HM38.out GgM38.out (by decide) (by repeat (first | (with_reducible first | exact HB.out | apply below_alloc | apply pw_below_drewN | apply below_drew1) | exact HB.out)) ?_; (case ho => rfl); (case hg => rfl); (case hd => rfl); (case hm => first | rfl | (go_simp; done) | (go_simp; rfl)); intro w_1 hm_ hb_; have n0_ := Aside0.mk hm_; have n1_ := Aside0.mk hb_; clear HM38; clear HB; have HM38 := n0_; have HB := n1_; clear n0_ n1_; clear hm_ hb_) | ((with_reducible refine gate_dst (N := 41) rfl ?_); refine Go.Proofs.Ytacmlggiklkbiaa.Mine.map_look (w0 := w) (base := w.heap.size) (g := gM38) (l := [(120, 2), (117, 4), (85, 8)]) ?hg (t := 64) (kt := 3) (et := 3) (.tmp 39) (.tmp 40) ?ho Try.underlying64 Try.underlying3 Try.underlying3 ?kk ?hm ?hx HM38.out (Try.zeroValue3 _) ?_; (case ho => rfl); (case hg => rfl); (case hm => first | rfl | (go_simp; done) | (go_simp; rfl)); (case hx => first | rfl | (go_simp; done) | (go_simp; rfl))) | ((with_reducible refine gate_callee (f := 30) rfl ?_); refine goesL_ (some 29) rfl rfl Try.func30 (by kernel_rfl) rfl #[.string a0, .int .i64 (wrap64 (t199 + 1))] rfl (by (try simp only [List.map_toArray, List.map_cons, List.map_nil]); first | done | rfl | (simp only [List.length_drop, List.length_take]; rfl)) ?_; (with_reducible refine (impl_byteAt.calls a0 (wrap64 (t199 + 1)) t201 _ A11.out).mono ?_); rintro e w15 ⟨rfl, hb⟩; refine ⟨_, rfl, ?_⟩; have n0_ := Aside0.mk (below_step (by repeat (first | (with_reducible first | exact HB.out | apply below_alloc | apply pw_below_drewN | apply below_drew1) | exact HB.out)) hb); clear HB; have HB := n0_; clear n0_; (try clear hb); (try clear hb2); (try clear hk); (try clear hi)) | ((with_reducible refine gate_callee (f := 53) rfl ?_); refine goesL_ (some 31) rfl rfl Try.func53 (by kernel_rfl) rfl #[.int .i64 t201] rfl (by (try simp only [List.map_toArray, List.map_cons, List.map_nil]); first | done | rfl | (simp only [List.length_drop, List.length_take]; rfl)) ?_; (with_reducible refine (impl_shortEscape.calls kj3 t201 t202 _ A12.out).mono ?_); rintro e w16 ⟨rfl, hb⟩; refine ⟨_, rfl, ?_⟩; have n0_ := Aside0.mk (below_step (by repeat (first | (with_reducible first | exact HB.out | apply below_alloc | apply pw_below_drewN | apply below_drew1) | exact HB.out)) hb); clear HB; have HB := n0_; clear n0_; (try clear hb); (try clear hb2); (try clear hk); (try clear hi)) | ((with_reducible refine gate_callee (f := 54) rfl ?_); refine goesL_ (some 35) rfl rfl Try.func54 (by kernel_rfl) rfl #[.int .i64 t202] rfl (by (try simp only [List.map_toArray, List.map_cons, List.map_nil]); first | done | rfl | (simp only [List.length_drop, List.length_take]; rfl)) ?_; (with_reducible refine (impl_RuneBytes.calls t202 t203 _ A14.out).mono ?_); rintro e w' ⟨rfl, ⟨nd, rfl⟩⟩; refine ⟨_, rfl, ?_⟩))
          go_ret2
          exact ⟨by first | rfl | (simp [errW_none, errW_some] <;> rfl) | (simp [*, errW_none, errW_some] <;> rfl), by repeat (first | (with_reducible first | exact HB.out | apply below_alloc | apply pw_below_drewN | apply below_drew1) | exact HB.out)⟩
        · rw [if_neg c13] at H
          have c13b0 : decide (0 ≤ t202) = false := decide_eq_false c13
          clear c13
          replace H := Option.bind_eq_some_iff.mp H
          obtain ⟨⟨t204, t205⟩, A170, H⟩ := H
          replace H : ((impl_RuneBytes.f t204).bind fun t206 => (if (Mine.mapGet [(120, 2), (117, 4), (85, 8)] t201) = 0 then (some ((⟨#[]⟩ : ByteArray), 0)) else (if t205 = true then (if t206.toList = ([] : List UInt8) then (some ((⟨#[]⟩ : ByteArray), 0)) else (some (t206, wrap64 ((wrap64 (t199 + 2)) + (Mine.mapGet [(120, 2), (117, 4), (85, 8)] t201))))) else (some ((⟨#[]⟩ : ByteArray), 0))))) = some (r1, r2) := H
          have A17 := Aside0.mk A170
          clear A170
          replace H := Option.bind_eq_some_iff.mp H
          obtain ⟨t206, A180, H⟩ := H
          replace H : (if (Mine.mapGet [(120, 2), (117, 4), (85, 8)] t201) = 0 then (some ((⟨#[]⟩ : ByteArray), 0)) else (if t205 = true then (if t206.toList = ([] : List UInt8) then (some ((⟨#[]⟩ : ByteArray), 0)) else (some (t206, wrap64 ((wrap64 (t199 + 2)) + (Mine.mapGet [(120, 2), (117, 4), (85, 8)] t201))))) else (some ((⟨#[]⟩ : ByteArray), 0)))) = some (r1, r2) := H
          have A18 := Aside0.mk A180
          clear A180
          by_cases c19 : (Mine.mapGet [(120, 2), (117, 4), (85, 8)] t201) = 0
          · rw [if_pos c19] at H
            have c19b0 : ((Mine.mapGet [(120, 2), (117, 4), (85, 8)] t201) == 0) = true := beq_iff_eq.mpr c19
            have c19b1 : ((Mine.mapGet [(120, 2), (117, 4), (85, 8)] t201) != 0) = false := bne_eq_false_iff_eq.mpr c19
            clear c19
            simp only [Option.some.injEq, Prod.mk.injEq] at H
            obtain ⟨rfl, rfl⟩ := H
            go_wp2_with (first | ((with_reducible refine gate_dst (N := 38) rfl ?_); refine Go.Proofs.Ytacmlggiklkbiaa.Mine.map_make ?hg (t := 64) ?ho (below_size (by repeat (first | (with_reducible first | exact HB.out | apply below_alloc | apply pw_below_drewN | apply below_drew1) | exact HB.out))) (by repeat (first | (with_reducible first | exact HB.out | apply below_alloc | apply pw_below_drewN | apply below_drew1) | exact HB.out)) ?_; (case hg => rfl); (case ho => rfl); intro w_1 gM38 hm_ hg_ hb_; have n0_ := Aside0.mk hm_; have n1_ := Aside0.mk hg_; have n2_ := Aside0.mk hb_; clear HB; have HM38 := n0_; have GgM38 := n1_; have HB := n2_; clear n0_ n1_ n2_; clear hm_ hg_ hb_) | (refine Go.Proofs.Ytacmlggiklkbiaa.Mine.map_insert (g := gM38) (l := []) ?hg ?hd (t := 64) (kt := 3) (et := 3) (.tmp 38) 120 2 ?ho Try.underlying64 Try.underlying3 ?hm HM38.out GgM38.out (by decide) (by repeat (first | (with_reducible first | exact HB.out | apply below_alloc | apply pw_below_drewN | apply below_drew1) | exact HB.out)) ?_; (case ho => rfl); (case hg => rfl); (case hd => rfl); (case hm => first | rfl | (go_simp; done) | (go_simp; rfl)); intro w_1 hm_ hb_; have n0_ := Aside0.mk hm_; have n1_ := Aside0.mk hb_; clear HM38; clear HB; have HM38 := n0_; have HB := n1_; clear n0_ n1_; clear hm_ hb_) | (refine Go.Proofs.Ytacmlggiklkbiaa.Mine.map_insert (g := gM38) (l := [(120, 2)]) ?hg ?hd (t := 64) (kt := 3) (et := 3) (.tmp 38) 117 4 ?ho Try.underlying64 Try.underlying3 ?hm HM38.out GgM38.out (by decide) (by repeat (first | (with_reducible first | exact HB.out | apply below_alloc | apply pw_below_drewN | apply below_drew1) | exact HB.out)) ?_; (case ho => rfl); (case hg => rfl); (case hd => rfl); (case hm => first | rfl | (go_simp; done) | (go_simp; rfl)); intro w_1 hm_ hb_; have n0_ := Aside0.mk hm_; have n1_ := Aside0.mk hb_; clear HM38; clear HB; have HM38 := n0_; have HB := n1_; clear n0_ n1_; clear hm_ hb_) | (refine Go.Proofs.Ytacmlggiklkbiaa.Mine.map_insert (g := gM38) (l := [(120, 2), (117, 4)]) ?hg ?hd (t := 64) (kt := 3) (et := 3) (.tmp 38) 85 8 ?ho Try.underlying64 Try.underlying3 ?hm HM38.out GgM38.out (by decide) (by repeat (first | (with_reducible first | exact HB.out | apply below_alloc | apply pw_below_drewN | apply below_drew1) | exact HB.out)) ?_; (case ho => rfl); (case hg => rfl); (case hd => rfl); (case hm => first | rfl | (go_simp; done) | (go_simp; rfl)); intro w_1 hm_ hb_; have n0_ := Aside0.mk hm_; have n1_ := Aside0.mk hb_; clear HM38; clear HB; have HM38 := n0_; have HB := n1_; clear n0_ n1_; clear hm_ hb_) | ((with_reducible refine gate_dst (N := 41) rfl ?_); refine Go.Proofs.Ytacmlggiklkbiaa.Mine.map_look (w0 := w) (base := w.heap.size) (g := gM38) (l := [(120, 2), (117, 4), (85, 8)]) ?hg (t := 64) (kt := 3) (et := 3) (.tmp 39) (.tmp 40) ?ho Try.underlying64 Try.underlying3 Try.underlying3 ?kk ?hm ?hx HM38.out (Try.zeroValue3 _) ?_; (case ho => rfl); (case hg => rfl); (case hm => first | rfl | (go_simp; done) | (go_simp; rfl)); (case hx => first | rfl | (go_simp; done) | (go_simp; rfl))) | ((with_reducible refine gate_callee (f := 30) rfl ?_); refine goesL_ (some 29) rfl rfl Try.func30 (by kernel_rfl) rfl #[.string a0, .int .i64 (wrap64 (t199 + 1))] rfl (by (try simp only [List.map_toArray, List.map_cons, List.map_nil]); first | done | rfl | (simp only [List.length_drop, List.length_take]; rfl)) ?_; (with_reducible refine (impl_byteAt.calls a0 (wrap64 (t199 + 1)) t201 _ A11.out).mono ?_); rintro e w20 ⟨rfl, hb⟩; refine ⟨_, rfl, ?_⟩; have n0_ := Aside0.mk (below_step (by repeat (first | (with_reducible first | exact HB.out | apply below_alloc | apply pw_below_drewN | apply below_drew1) | exact HB.out)) hb); clear HB; have HB := n0_; clear n0_; (try clear hb); (try clear hb2); (try clear hk); (try clear hi)) | ((with_reducible refine gate_callee (f := 53) rfl ?_); refine goesL_ (some 31) rfl rfl Try.func53 (by kernel_rfl) rfl #[.int .i64 t201] rfl (by (try simp only [List.map_toArray, List.map_cons, List.map_nil]); first | done | rfl | (simp only [List.length_drop, List.length_take]; rfl)) ?_; (with_reducible refine (impl_shortEscape.calls kj3 t201 t202 _ A12.out).mono ?_); rintro e w21 ⟨rfl, hb⟩; refine ⟨_, rfl, ?_⟩; have n0_ := Aside0.mk (below_step (by repeat (first | (with_reducible first | exact HB.out | apply below_alloc | apply pw_below_drewN | apply below_drew1) | exact HB.out)) hb); clear HB; have HB := n0_; clear n0_; (try clear hb); (try clear hb2); (try clear hk); (try clear hi)) | ((with_reducible refine gate_callee (f := 55) rfl ?_); refine goesL_ (some 47) rfl rfl Try.func55 (by kernel_rfl) rfl #[.string a0, .int .i64 (wrap64 (t199 + 2)), .int .i64 (Mine.mapGet [(120, 2), (117, 4), (85, 8)] t201)] rfl (by (try simp only [List.map_toArray, List.map_cons, List.map_nil]); first | done | rfl | (simp only [List.length_drop, List.length_take]; rfl)) ?_; (with_reducible refine (impl_hexValue.calls kj3 a0 (wrap64 (t199 + 2)) (Mine.mapGet [(120, 2), (117, 4), (85, 8)] t201) t204 t205 _ A17.out).mono ?_); rintro e w22 ⟨rfl, hb⟩; refine ⟨_, rfl, ?_⟩; have n0_ := Aside0.mk (below_step (by repeat (first | (with_reducible first | exact HB.out | apply below_alloc | apply pw_below_drewN | apply below_drew1) | exact HB.out)) hb); clear HB; have HB := n0_; clear n0_; (try clear hb); (try clear hb2); (try clear hk); (try clear hi)) | ((with_reducible refine gate_callee (f := 54) rfl ?_); refine goesL_ (some 51) rfl rfl Try.func54 (by kernel_rfl) rfl #[.int .i64 t204] rfl (by (try simp only [List.map_toArray, List.map_cons, List.map_nil]); first | done | rfl | (simp only [List.length_drop, List.length_take]; rfl)) ?_; (with_reducible refine (impl_RuneBytes.calls t204 t206 _ A18.out).mono ?_); rintro e w' ⟨rfl, ⟨nd, rfl⟩⟩; refine ⟨_, rfl, ?_⟩))
            go_ret2
            exact ⟨by first | rfl | (simp [errW_none, errW_some] <;> rfl) | (simp [*, errW_none, errW_some] <;> rfl), by repeat (first | (with_reducible first | exact HB.out | apply below_alloc | apply pw_below_drewN | apply below_drew1) | exact HB.out)⟩
          · rw [if_neg c19] at H
            have c19b0 : ((Mine.mapGet [(120, 2), (117, 4), (85, 8)] t201) == 0) = false := beq_eq_false_iff_ne.mpr c19
            have c19b1 : ((Mine.mapGet [(120, 2), (117, 4), (85, 8)] t201) != 0) = true := bne_iff_ne.mpr c19
            by_cases c23 : t205 = true
            · subst c23
              have H1 : (if t206.toList = ([] : List UInt8) then (some ((⟨#[]⟩ : ByteArray), 0)) else (some (t206, wrap64 ((wrap64 (t199 + 2)) + (Mine.mapGet [(120, 2), (117, 4), (85, 8)] t201))))) = some (r1, r2) := by rw [if_pos rfl] at H; exact H
              clear H
              have H := H1
              clear H1
              by_cases c24 : t206.toList = ([] : List UInt8)
              · rw [if_pos c24] at H
                have c24b14 : t206.toList.isEmpty = true := by rw [c24]; rfl
                have c24b0 : (t206.toList == ([] : List UInt8)) = true := beq_iff_eq.mpr c24
                have c24b1 : (t206.toList != ([] : List UInt8)) = false := bne_eq_false_iff_eq.mpr c24
                clear c24
                simp only [Option.some.injEq, Prod.mk.injEq] at H
                obtain ⟨rfl, rfl⟩ := H
                go_wp2_with (first | ((with_reducible refine gate_dst (N := 38) rfl ?_); refine Go.Proofs.Ytacmlggiklkbiaa.Mine.map_make ?hg (t := 64) ?ho (below_size (by repeat (first | (with_reducible first | exact HB.out | apply below_alloc | apply pw_below_drewN | apply below_drew1) | exact HB.out))) (by repeat (first | (with_reducible first | exact HB.out | apply below_alloc | apply pw_below_drewN | apply below_drew1) | exact HB.out)) ?_; (case hg => rfl); (case ho => rfl); intro w_1 gM38 hm_ hg_ hb_; have n0_ := Aside0.mk hm_; have n1_ := Aside0.mk hg_; have n2_ := Aside0.mk hb_; clear HB; have HM38 := n0_; have GgM38 := n1_; have HB := n2_; clear n0_ n1_ n2_; clear hm_ hg_ hb_) | (refine Go.Proofs.Ytacmlggiklkbiaa.Mine.map_insert (g := gM38) (l := []) ?hg ?hd (t := 64) (kt := 3) (et := 3) (.tmp 38) 120 2 ?ho Try.underlying64 Try.underlying3 ?hm HM38.out GgM38.out (by decide) (by repeat (first | (with_reducible first | exact HB.out | apply below_alloc | apply pw_below_drewN | apply below_drew1) | exact HB.out)) ?_; (case ho => rfl); (case hg => rfl); (case hd => rfl); (case hm => first | rfl | (go_simp; done) | (go_simp; rfl)); intro w_1 hm_ hb_; have n0_ := Aside0.mk hm_; have n1_ := Aside0.mk hb_; clear HM38; clear HB; have HM38 := n0_; have HB := n1_; clear n0_ n1_; clear hm_ hb_) | (refine Go.Proofs.Ytacmlggiklkbiaa.Mine.map_insert (g := gM38) (l := [(120, 2)]) ?hg ?hd (t := 64) (kt := 3) (et := 3) (.tmp 38) 117 4 ?ho Try.underlying64 Try.underlying3 ?hm HM38.out GgM38.out (by decide) (by repeat (first | (with_reducible first | exact HB.out | apply below_alloc | apply pw_below_drewN | apply below_drew1) | exact HB.out)) ?_; (case ho => rfl); (case hg => rfl); (case hd => rfl); (case hm => first | rfl | (go_simp; done) | (go_simp; rfl)); intro w_1 hm_ hb_; have n0_ := Aside0.mk hm_; have n1_ := Aside0.mk hb_; clear HM38; clear HB; have HM38 := n0_; have HB := n1_; clear n0_ n1_; clear hm_ hb_) | (refine Go.Proofs.Ytacmlggiklkbiaa.Mine.map_insert (g := gM38) (l := [(120, 2), (117, 4)]) ?hg ?hd (t := 64) (kt := 3) (et := 3) (.tmp 38) 85 8 ?ho Try.underlying64 Try.underlying3 ?hm HM38.out GgM38.out (by decide) (by repeat (first | (with_reducible first | exact HB.out | apply below_alloc | apply pw_below_drewN | apply below_drew1) | exact HB.out)) ?_; (case ho => rfl); (case hg => rfl); (case hd => rfl); (case hm => first | rfl | (go_simp; done) | (go_simp; rfl)); intro w_1 hm_ hb_; have n0_ := Aside0.mk hm_; have n1_ := Aside0.mk hb_; clear HM38; clear HB; have HM38 := n0_; have HB := n1_; clear n0_ n1_; clear hm_ hb_) | ((with_reducible refine gate_dst (N := 41) rfl ?_); refine Go.Proofs.Ytacmlggiklkbiaa.Mine.map_look (w0 := w) (base := w.heap.size) (g := gM38) (l := [(120, 2), (117, 4), (85, 8)]) ?hg (t := 64) (kt := 3) (et := 3) (.tmp 39) (.tmp 40) ?ho Try.underlying64 Try.underlying3 Try.underlying3 ?kk ?hm ?hx HM38.out (Try.zeroValue3 _) ?_; (case ho => rfl); (case hg => rfl); (case hm => first | rfl | (go_simp; done) | (go_simp; rfl)); (case hx => first | rfl | (go_simp; done) | (go_simp; rfl))) | ((with_reducible refine gate_callee (f := 30) rfl ?_); refine goesL_ (some 29) rfl rfl Try.func30 (by kernel_rfl) rfl #[.string a0, .int .i64 (wrap64 (t199 + 1))] rfl (by (try simp only [List.map_toArray, List.map_cons, List.map_nil]); first | done | rfl | (simp only [List.length_drop, List.length_take]; rfl)) ?_; (with_reducible refine (impl_byteAt.calls a0 (wrap64 (t199 + 1)) t201 _ A11.out).mono ?_); rintro e w25 ⟨rfl, hb⟩; refine ⟨_, rfl, ?_⟩; have n0_ := Aside0.mk (below_step (by repeat (first | (with_reducible first | exact HB.out | apply below_alloc | apply pw_below_drewN | apply below_drew1) | exact HB.out)) hb); clear HB; have HB := n0_; clear n0_; (try clear hb); (try clear hb2); (try clear hk); (try clear hi)) | ((with_reducible refine gate_callee (f := 53) rfl ?_); refine goesL_ (some 31) rfl rfl Try.func53 (by kernel_rfl) rfl #[.int .i64 t201] rfl (by (try simp only [List.map_toArray, List.map_cons, List.map_nil]); first | done | rfl | (simp only [List.length_drop, List.length_take]; rfl)) ?_; (with_reducible refine (impl_shortEscape.calls kj3 t201 t202 _ A12.out).mono ?_); rintro e w26 ⟨rfl, hb⟩; refine ⟨_, rfl, ?_⟩; have n0_ := Aside0.mk (below_step (by repeat (first | (with_reducible first | exact HB.out | apply below_alloc | apply pw_below_drewN | apply below_drew1) | exact HB.out)) hb); clear HB; have HB := n0_; clear n0_; (try clear hb); (try clear hb2); (try clear hk); (try clear hi)) | ((with_reducible refine gate_callee (f := 55) rfl ?_); refine goesL_ (some 47) rfl rfl Try.func55 (by kernel_rfl) rfl #[.string a0, .int .i64 (wrap64 (t199 + 2)), .int .i64 (Mine.mapGet [(120, 2), (117, 4), (85, 8)] t201)] rfl (by (try simp only [List.map_toArray, List.map_cons, List.map_nil]); first | done | rfl | (simp only [List.length_drop, List.length_take]; rfl)) ?_; (with_reducible refine (impl_hexValue.calls kj3 a0 (wrap64 (t199 + 2)) (Mine.mapGet [(120, 2), (117, 4), (85, 8)] t201) t204 true _ A17.out).mono ?_); rintro e w27 ⟨rfl, hb⟩; refine ⟨_, rfl, ?_⟩; have n0_ := Aside0.mk (below_step (by repeat (first | (with_reducible first | exact HB.out | apply below_alloc | apply pw_below_drewN | apply below_drew1) | exact HB.out)) hb); clear HB; have HB := n0_; clear n0_; (try clear hb); (try clear hb2); (try clear hk); (try clear hi)) | ((with_reducible refine gate_callee (f := 54) rfl ?_); refine goesL_ (some 51) rfl rfl Try.func54 (by kernel_rfl) rfl #[.int .i64 t204] rfl (by (try simp only [List.map_toArray, List.map_cons, List.map_nil]); first | done | rfl | (simp only [List.length_drop, List.length_take]; rfl)) ?_; (with_reducible refine (impl_RuneBytes.calls t204 t206 _ A18.out).mono ?_); rintro e w' ⟨rfl, ⟨nd, rfl⟩⟩; refine ⟨_, rfl, ?_⟩))
                go_ret2
                exact ⟨by first | rfl | (simp [errW_none, errW_some] <;> rfl) | (simp [*, errW_none, errW_some] <;> rfl), by repeat (first | (with_reducible first | exact HB.out | apply below_alloc | apply pw_below_drewN | apply below_drew1) | exact HB.out)⟩
              · rw [if_neg c24] at H
                have c24b14 : t206.toList.isEmpty = false := by simpa using c24
                have c24b0 : (t206.toList == ([] : List UInt8)) = false := beq_eq_false_iff_ne.mpr c24
                have c24b1 : (t206.toList != ([] : List UInt8)) = true := bne_iff_ne.mpr c24
                simp only [Option.some.injEq, Prod.mk.injEq] at H
                obtain ⟨rfl, rfl⟩ := H
                go_wp2_with (first | ((with_reducible refine gate_dst (N := 38) rfl ?_); refine Go.Proofs.Ytacmlggiklkbiaa.Mine.map_make ?hg (t := 64) ?ho (below_size (by repeat (first | (with_reducible first | exact HB.out | apply below_alloc | apply pw_below_drewN | apply below_drew1) | exact HB.out))) (by repeat (first | (with_reducible first | exact HB.out | apply below_alloc | apply pw_below_drewN | apply below_drew1) | exact HB.out)) ?_; (case hg => rfl); (case ho => rfl); intro w_1 gM38 hm_ hg_ hb_; have n0_ := Aside0.mk hm_; have n1_ := Aside0.mk hg_; have n2_ := Aside0.mk hb_; clear HB; have HM38 := n0_; have GgM38 := n1_; have HB := n2_; clear n0_ n1_ n2_; clear hm_ hg_ hb_) | (refine Go.Proofs.Ytacmlggiklkbiaa.Mine.map_insert (g := gM38) (l := []) ?hg ?hd (t := 64) (kt := 3) (et := 3) (.tmp 38) 120 2 ?ho Try.underlying64 Try.underlying3 ?hm HM38.out GgM38.out (by decide) (by repeat (first | (with_reducible first | exact HB.out | apply below_alloc | apply pw_below_drewN | apply below_drew1) | exact HB.out)) ?_; (case ho => rfl); (case hg => rfl); (case hd => rfl); (case hm => first | rfl | (go_simp; done) | (go_simp; rfl)); intro w_1 hm_ hb_; have n0_ := Aside0.mk hm_; have n1_ := Aside0.mk hb_; clear HM38; clear HB; have HM38 := n0_; have HB := n1_; clear n0_ n1_; clear hm_ hb_) | (refine Go.Proofs.Ytacmlggiklkbiaa.Mine.map_insert (g := gM38) (l := [(120, 2)]) ?hg ?hd (t := 64) (kt := 3) (et := 3) (.tmp 38) 117 4 ?ho Try.underlying64 Try.underlying3 ?hm HM38.out GgM38.out (by decide) (by repeat (first | (with_reducible first | exact HB.out | apply below_alloc | apply pw_below_drewN | apply below_drew1) | exact HB.out)) ?_; (case ho => rfl); (case hg => rfl); (case hd => rfl); (case hm => first | rfl | (go_simp; done) | (go_simp; rfl)); intro w_1 hm_ hb_; have n0_ := Aside0.mk hm_; have n1_ := Aside0.mk hb_; clear HM38; clear HB; have HM38 := n0_; have HB := n1_; clear n0_ n1_; clear hm_ hb_) | (refine Go.Proofs.Ytacmlggiklkbiaa.Mine.map_insert (g := gM38) (l := [(120, 2), (117, 4)]) ?hg ?hd (t := 64) (kt := 3) (et := 3) (.tmp 38) 85 8 ?ho Try.underlying64 Try.underlying3 ?hm HM38.out GgM38.out (by decide) (by repeat (first | (with_reducible first | exact HB.out | apply below_alloc | apply pw_below_drewN | apply below_drew1) | exact HB.out)) ?_; (case ho => rfl); (case hg => rfl); (case hd => rfl); (case hm => first | rfl | (go_simp; done) | (go_simp; rfl)); intro w_1 hm_ hb_; have n0_ := Aside0.mk hm_; have n1_ := Aside0.mk hb_; clear HM38; clear HB; have HM38 := n0_; have HB := n1_; clear n0_ n1_; clear hm_ hb_) | ((with_reducible refine gate_dst (N := 41) rfl ?_); refine Go.Proofs.Ytacmlggiklkbiaa.Mine.map_look (w0 := w) (base := w.heap.size) (g := gM38) (l := [(120, 2), (117, 4), (85, 8)]) ?hg (t := 64) (kt := 3) (et := 3) (.tmp 39) (.tmp 40) ?ho Try.underlying64 Try.underlying3 Try.underlying3 ?kk ?hm ?hx HM38.out (Try.zeroValue3 _) ?_; (case ho => rfl); (case hg => rfl); (case hm => first | rfl | (go_simp; done) | (go_simp; rfl)); (case hx => first | rfl | (go_simp; done) | (go_simp; rfl))) | ((with_reducible refine gate_callee (f := 30) rfl ?_); refine goesL_ (some 29) rfl rfl Try.func30 (by kernel_rfl) rfl #[.string a0, .int .i64 (wrap64 (t199 + 1))] rfl (by (try simp only [List.map_toArray, List.map_cons, List.map_nil]); first | done | rfl | (simp only [List.length_drop, List.length_take]; rfl)) ?_; (with_reducible refine (impl_byteAt.calls a0 (wrap64 (t199 + 1)) t201 _ A11.out).mono ?_); rintro e w28 ⟨rfl, hb⟩; refine ⟨_, rfl, ?_⟩; have n0_ := Aside0.mk (below_step (by repeat (first | (with_reducible first | exact HB.out | apply below_alloc | apply pw_below_drewN | apply below_drew1) | exact HB.out)) hb); clear HB; have HB := n0_; clear n0_; (try clear hb); (try clear hb2); (try clear hk); (try clear hi)) | ((with_reducible refine gate_callee (f := 53) rfl ?_); refine goesL_ (some 31) rfl rfl Try.func53 (by kernel_rfl) rfl #[.int .i64 t201] rfl (by (try simp only [List.map_toArray, List.map_cons, List.map_nil]); first | done | rfl | (simp only [List.length_drop, List.length_take]; rfl)) ?_; (with_reducible refine (impl_shortEscape.calls kj3 t201 t202 _ A12.out).mono ?_); rintro e w29 ⟨rfl, hb⟩; refine ⟨_, rfl, ?_⟩; have n0_ := Aside0.mk (below_step (by repeat (first | (with_reducible first | exact HB.out | apply below_alloc | apply pw_below_drewN | apply below_drew1) | exact HB.out)) hb); clear HB; have HB := n0_; clear n0_; (try clear hb); (try clear hb2); (try clear hk); (try clear hi)) | ((with_reducible refine gate_callee (f := 55) rfl ?_); refine goesL_ (some 47) rfl rfl Try.func55 (by kernel_rfl) rfl #[.string a0, .int .i64 (wrap64 (t199 + 2)), .int .i64 (Mine.mapGet [(120, 2), (117, 4), (85, 8)] t201)] rfl (by (try simp only [List.map_toArray, List.map_cons, List.map_nil]); first | done | rfl | (simp only [List.length_drop, List.length_take]; rfl)) ?_; (with_reducible refine (impl_hexValue.calls kj3 a0 (wrap64 (t199 + 2)) (Mine.mapGet [(120, 2), (117, 4), (85, 8)] t201) t204 true _ A17.out).mono ?_); rintro e w30 ⟨rfl, hb⟩; refine ⟨_, rfl, ?_⟩; have n0_ := Aside0.mk (below_step (by repeat (first | (with_reducible first | exact HB.out | apply below_alloc | apply pw_below_drewN | apply below_drew1) | exact HB.out)) hb); clear HB; have HB := n0_; clear n0_; (try clear hb); (try clear hb2); (try clear hk); (try clear hi)) | ((with_reducible refine gate_callee (f := 54) rfl ?_); refine goesL_ (some 51) rfl rfl Try.func54 (by kernel_rfl) rfl #[.int .i64 t204] rfl (by (try simp only [List.map_toArray, List.map_cons, List.map_nil]); first | done | rfl | (simp only [List.length_drop, List.length_take]; rfl)) ?_; (with_reducible refine (impl_RuneBytes.calls t204 t206 _ A18.out).mono ?_); rintro e w' ⟨rfl, ⟨nd, rfl⟩⟩; refine ⟨_, rfl, ?_⟩))
                go_ret2
                exact ⟨by first | rfl | (simp [errW_none, errW_some] <;> rfl) | (simp [*, errW_none, errW_some] <;> rfl), by repeat (first | (with_reducible first | exact HB.out | apply below_alloc | apply pw_below_drewN | apply below_drew1) | exact HB.out)⟩
            · replace c23 := Bool.eq_false_iff.mpr c23
              subst c23
              have H1 : (some ((⟨#[]⟩ : ByteArray), 0)) = some (r1, r2) := by rw [if_neg (show ¬ (false = true) by decide)] at H; exact H
              clear H
              have H := H1
              clear H1
              simp only [Option.some.injEq, Prod.mk.injEq] at H
              obtain ⟨rfl, rfl⟩ := H
              go_wp2_with (first | ((with_reducible refine gate_dst (N := 38) rfl ?_); refine Go.Proofs.Ytacmlggiklkbiaa.Mine.map_make ?hg (t := 64) ?ho (below_size (by repeat (first | (with_reducible first | exact HB.out | apply below_alloc | apply pw_below_drewN | apply below_drew1) | exact HB.out))) (by repeat (first | (with_reducible first | exact HB.out | apply below_alloc | apply pw_below_drewN | apply below_drew1) | exact HB.out)) ?_; (case hg => rfl); (case ho => rfl); intro w_1 gM38 hm_ hg_ hb_; have n0_ := Aside0.mk hm_; have n1_ := Aside0.mk hg_; have n2_ := Aside0.mk hb_; clear HB; have HM38 := n0_; have GgM38 := n1_; have HB := n2_; clear n0_ n1_ n2_; clear hm_ hg_ hb_) | (refine Go.Proofs.Ytacmlggiklkbiaa.Mine.map_insert (g := gM38) (l := []) ?hg ?hd (t := 64) (kt := 3) (et := 3) (.tmp 38) 120 2 ?ho Try.underlying64 Try.underlying3 ?hm HM38.out GgM38.out (by decide) (by repeat (first | (with_reducible first | exact HB.out | apply below_alloc | apply pw_below_drewN | apply below_drew1) | exact HB.out)) ?_; (case ho => rfl); (case hg => rfl); (case hd => rfl); (case hm => first | rfl | (go_simp; done) | (go_simp; rfl)); intro w_1 hm_ hb_; have n0_ := Aside0.mk hm_; have n1_ := Aside0.mk hb_; clear HM38; clear HB; have HM38 := n0_; have HB := n1_; clear n0_ n1_; clear hm_ hb_) | (refine Go.Proofs.Ytacmlggiklkbiaa.Mine.map_insert (g := gM38) (l := [(120, 2)]) ?hg ?hd (t := 64) (kt := 3) (et := 3) (.tmp 38) 117 4 ?ho Try.underlying64 Try.underlying3 ?hm HM38.out GgM38.out (by decide) (by repeat (first | (with_reducible first | exact HB.out | apply below_alloc | apply pw_below_drewN | apply below_drew1) | exact HB.out)) ?_; (case ho => rfl); (case hg => rfl); (case hd => rfl); (case hm => first | rfl | (go_simp; done) | (go_simp; rfl)); intro w_1 hm_ hb_; have n0_ := Aside0.mk hm_; have n1_ := Aside0.mk hb_; clear HM38; clear HB; have HM38 := n0_; have HB := n1_; clear n0_ n1_; clear hm_ hb_) | (refine Go.Proofs.Ytacmlggiklkbiaa.Mine.map_insert (g := gM38) (l := [(120, 2), (117, 4)]) ?hg ?hd (t := 64) (kt := 3) (et := 3) (.tmp 38) 85 8 ?ho Try.underlying64 Try.underlying3 ?hm HM38.out GgM38.out (by decide) (by repeat (first | (with_reducible first | exact HB.out | apply below_alloc | apply pw_below_drewN | apply below_drew1) | exact HB.out)) ?_; (case ho => rfl); (case hg => rfl); (case hd => rfl); (case hm => first | rfl | (go_simp; done) | (go_simp; rfl)); intro w_1 hm_ hb_; have n0_ := Aside0.mk hm_; have n1_ := Aside0.mk hb_; clear HM38; clear HB; have HM38 := n0_; have HB := n1_; clear n0_ n1_; clear hm_ hb_) | ((with_reducible refine gate_dst (N := 41) rfl ?_); refine Go.Proofs.Ytacmlggiklkbiaa.Mine.map_look (w0 := w) (base := w.heap.size) (g := gM38) (l := [(120, 2), (117, 4), (85, 8)]) ?hg (t := 64) (kt := 3) (et := 3) (.tmp 39) (.tmp 40) ?ho Try.underlying64 Try.underlying3 Try.underlying3 ?kk ?hm ?hx HM38.out (Try.zeroValue3 _) ?_; (case ho => rfl); (case hg => rfl); (case hm => first | rfl | (go_simp; done) | (go_simp; rfl)); (case hx => first | rfl | (go_simp; done) | (go_simp; rfl))) | ((with_reducible refine gate_callee (f := 30) rfl ?_); refine goesL_ (some 29) rfl rfl Try.func30 (by kernel_rfl) rfl #[.string a0, .int .i64 (wrap64 (t199 + 1))] rfl (by (try simp only [List.map_toArray, List.map_cons, List.map_nil]); first | done | rfl | (simp only [List.length_drop, List.length_take]; rfl)) ?_; (with_reducible refine (impl_byteAt.calls a0 (wrap64 (t199 + 1)) t201 _ A11.out).mono ?_); rintro e w31 ⟨rfl, hb⟩; refine ⟨_, rfl, ?_⟩; have n0_ := Aside0.mk (below_step (by repeat (first | (with_reducible first | exact HB.out | apply below_alloc | apply pw_below_drewN | apply below_drew1) | exact HB.out)) hb); clear HB; have HB := n0_; clear n0_; (try clear hb); (try clear hb2); (try clear hk); (try clear hi)) | ((with_reducible refine gate_callee (f := 53) rfl ?_); refine goesL_ (some 31) rfl rfl Try.func53 (by kernel_rfl) rfl #[.int .i64 t201] rfl (by (try simp only [List.map_toArray, List.map_cons, List.map_nil]); first | done | rfl | (simp only [List.length_drop, List.length_take]; rfl)) ?_; (with_reducible refine (impl_shortEscape.calls kj3 t201 t202 _ A12.out).mono ?_); rintro e w32 ⟨rfl, hb⟩; refine ⟨_, rfl, ?_⟩; have n0_ := Aside0.mk (below_step (by repeat (first | (with_reducible first | exact HB.out | apply below_alloc | apply pw_below_drewN | apply below_drew1) | exact HB.out)) hb); clear HB; have HB := n0_; clear n0_; (try clear hb); (try clear hb2); (try clear hk); (try clear hi)) | ((with_reducible refine gate_callee (f := 55) rfl ?_); refine goesL_ (some 47) rfl rfl Try.func55 (by kernel_rfl) rfl #[.string a0, .int .i64 (wrap64 (t199 + 2)), .int .i64 (Mine.mapGet [(120, 2), (117, 4), (85, 8)] t201)] rfl (by (try simp only [List.map_toArray, List.map_cons, List.map_nil]); first | done | rfl | (simp only [List.length_drop, List.length_take]; rfl)) ?_; (with_reducible refine (impl_hexValue.calls kj3 a0 (wrap64 (t199 + 2)) (Mine.mapGet [(120, 2), (117, 4), (85, 8)] t201) t204 false _ A17.out).mono ?_); rintro e w33 ⟨rfl, hb⟩; refine ⟨_, rfl, ?_⟩; have n0_ := Aside0.mk (below_step (by repeat (first | (with_reducible first | exact HB.out | apply below_alloc | apply pw_below_drewN | apply below_drew1) | exact HB.out)) hb); clear HB; have HB := n0_; clear n0_; (try clear hb); (try clear hb2); (try clear hk); (try clear hi)) | ((with_reducible refine gate_callee (f := 54) rfl ?_); refine goesL_ (some 51) rfl rfl Try.func54 (by kernel_rfl) rfl #[.int .i64 t204] rfl (by (try simp only [List.map_toArray, List.map_cons, List.map_nil]); first | done | rfl | (simp only [List.length_drop, List.length_take]; rfl)) ?_; (with_reducible refine (impl_RuneBytes.calls t204 t206 _ A18.out).mono ?_); rintro e w' ⟨rfl, ⟨nd, rfl⟩⟩; refine ⟨_, rfl, ?_⟩))
              go_ret2
              exact ⟨by first | rfl | (simp [errW_none, errW_some] <;> rfl) | (simp [*, errW_none, errW_some] <;> rfl), by repeat (first | (with_reducible first | exact HB.out | apply below_alloc | apply pw_below_drewN | apply below_drew1) | exact HB.out)⟩

/-! ### impl_DoubleAt: function 9 -/
/-- A reader of quoted lines at block g of W: what it made itself lies behind w0. -/
def QSt (w0 W : World) (g : Nat) (s : ByteArray) (p : Int) (l : List S44) (cur : ByteArray) (keep : Int) : Prop :=
  ∃ v, W.heap[g]? = some (.cells #[.string s, .int .i64 p, v, .string cur, .int .i64 keep] 51 (0, 0)) ∧ w0.heap.size ≤ g ∧ Below w0.heap.size w0 W ∧ Kd.R k44 44 W w0.heap.size (fun _ => True) v l
section
variable {w0 W : World} {g : Nat} {s : ByteArray} {p : Int} {l : List S44} {cur : ByteArray} {keep : Int}
theorem QSt.below (h : QSt w0 W g s p l cur keep) {W1 : World} (hw : Below W.heap.size W W1) : QSt w0 W1 g s p l cur keep := by
  obtain ⟨v, hb, hg, hB, hR⟩ := h
  exact ⟨v, (hw.block g (blk_lt hb)).trans hb, hg, below_then hB hB.size hw, Kd.R_below hR hw⟩
theorem QSt.alloc (h : QSt w0 W g s p l cur keep) (o : Obj) : QSt w0 (W.alloc o) g s p l cur keep := h.below (below_alloc (Below.refl _ _) o)
theorem QSt.drewN (h : QSt w0 W g s p l cur keep) (m : Nat) : QSt w0 (W.drewN m) g s p l cur keep := h.below (pw_below_drewN (Below.refl _ _) m)
theorem QSt.drew (h : QSt w0 W g s p l cur keep) : QSt w0 W.drew g s p l cur keep := h.below (below_drew (Below.refl _ _))
theorem QSt.out (h : QSt w0 W g s p l cur keep) : Below w0.heap.size w0 W := by
  obtain ⟨v, hb, hg, hB, hR⟩ := h
  exact hB
theorem QSt.nil (h : QSt w0 W g s p l cur keep) (j : Nat) (u : Value) {s' : ByteArray} {p' : Int} {cur' : ByteArray} {keep' : Int} (hu : ∀ v, (#[.string s, .int .i64 p, v, .string cur, .int .i64 keep] : Array Value).setIfInBounds j u = #[.string s', .int .i64 p', v, .string cur', .int .i64 keep']) : QSt w0 (W.setCell ⟨g, j, none⟩ u) g s' p' l cur' keep' := by
  obtain ⟨v, hb, hg, hB, hR⟩ := h
  have h1 := blk_set hb j u
  rw [hu] at h1
  exact ⟨v, h1, hg, hB.setCell hg _, Kd.R_set hR hb (by decide) j u⟩
theorem QSt.set_1 (h : QSt w0 W g s p l cur keep) (x : Int) : QSt w0 (W.setCell ⟨g, 1, none⟩ (.int .i64 x)) g s x l cur keep := h.nil 1 _ (fun _ => by simp)
theorem QSt.set_3 (h : QSt w0 W g s p l cur keep) (x : ByteArray) : QSt w0 (W.setCell ⟨g, 3, none⟩ (.string x)) g s p l x keep := h.nil 3 _ (fun _ => by simp)
theorem QSt.set_4 (h : QSt w0 W g s p l cur keep) (x : Int) : QSt w0 (W.setCell ⟨g, 4, none⟩ (.int .i64 x)) g s p l cur x := h.nil 4 _ (fun _ => by simp)
theorem QSt.cells (h : QSt w0 W g s p l cur keep) : ∃ A c, W.cell? ⟨g, 0, none⟩ = some (.string s) ∧ W.cell? ⟨g, 1, none⟩ = some (.int .i64 p) ∧ W.cell? ⟨g, 2, none⟩ = some (.slice A l.length c) ∧ W.cell? ⟨g, 3, none⟩ = some (.string cur) ∧ W.cell? ⟨g, 4, none⟩ = some (.int .i64 keep) ∧ (∀ j, W.frozen? ⟨g, j, none⟩ = false) ∧ Kd.R k44 44 W w0.heap.size (fun _ => True) (.slice A l.length c) l := by
  obtain ⟨v, hb, hg, hB, hR⟩ := h
  obtain ⟨A, c, rfl⟩ := Kd.R_slice hR
  exact ⟨A, c, (blk_cell hb 0).trans rfl, (blk_cell hb 1).trans rfl, (blk_cell hb 2).trans rfl, (blk_cell hb 3).trans rfl, (blk_cell hb 4).trans rfl, blk_frozen hb, hR⟩
/-- The row of lines has been appended to, and its header stored. -/
theorem QSt.grown (h : QSt w0 W g s p l cur keep) {A : Option Addr} {c : Nat} (h2 : W.cell? ⟨g, 2, none⟩ = some (.slice A l.length c)) {v1 : Value} {w1 : World} {l' : List S44} (hr : Kd.R k44 44 w1 w0.heap.size (fun _ => True) v1 l') (hb1 : Below w0.heap.size w0 w1) (hg1 : W.grownBy w1 (Value.slice A l.length c).ownBlock) :
    w1.cell? ⟨g, 0, none⟩ = some (.string s) ∧ w1.cell? ⟨g, 1, none⟩ = some (.int .i64 p) ∧ w1.cell? ⟨g, 2, none⟩ = some (.slice A l.length c) ∧ w1.cell? ⟨g, 3, none⟩ = some (.string cur) ∧ w1.cell? ⟨g, 4, none⟩ = some (.int .i64 keep) ∧ (∀ j, w1.frozen? ⟨g, j, none⟩ = false) ∧ QSt w0 (w1.setCell ⟨g, 2, none⟩ v1) g s p l' cur keep := by
  obtain ⟨v, hb, hg, hB, hR⟩ := h
  obtain rfl : v = .slice A l.length c := by
    have := (blk_cell hb 2).symm.trans h2
    exact Option.some.inj this
  have hb' := blk_grown hb hg1 (Kd.R_ne hR hb (by decide))
  have hs := blk_set hb' 2 v1
  simp only [List.setIfInBounds_toArray, List.set_cons_zero, List.set_cons_succ] at hs
  exact ⟨(blk_cell hb' 0).trans rfl, (blk_cell hb' 1).trans rfl, (blk_cell hb' 2).trans rfl, (blk_cell hb' 3).trans rfl, (blk_cell hb' 4).trans rfl, blk_frozen hb', v1, hs, hg, hb1.setCell hg _, Kd.R_set hr hb' (by decide) 2 v1⟩
end
set_option maxHeartbeats 1000000 in
set_option maxRecDepth 100000 in
theorem QSt.put {w0 w : World} {g : Nat} {s : ByteArray} {p : Int} {l : List S44} {cur : ByteArray} {keep : Int} (h : QSt w0 w g s p l cur keep) (t : ByteArray) (n : Int) (b : Bool) (hs : cur.size + t.size ≤ 9223372036854775807) :
    Calls Try.prog 33 #[.pointer (some ⟨g, 0, none⟩), .string t, .int .i64 n, .bool b] w fun e w' => e = .returned (.tuple #[]) ∧ QSt w0 w' g s (wrap64 (p + n)) l (cur ++ t) (if b = true then ((cur ++ t).size : Int) else keep) := by
  have HQ := Aside0.mk h
  obtain ⟨A, c, k0, k1, k2, k3, k4, kf, hR⟩ := h.cells
  have f1 := kf 1
  have f3 := kf 3
  have f4 := kf 4
  clear h hR kf k2 k0
  have hs1 : (9223372036854775807 < cur.size + t.size) = False := eq_false (Nat.not_lt.2 hs)
  have hs2 := eq_true hs
  cases b
  · go_enter Try.func33, Try.ntmps33
    go_wp2
    first | go_end0 | ((try simp only [Exit.inBlock, Exit.then]); refine bodyPost_ret (results_none rfl _ _ _) rfl ?_)
    exact ⟨rfl, (HQ.out.set_3 _).set_1 _⟩
  · go_enter Try.func33, Try.ntmps33
    go_wp2
    first | go_end0 | ((try simp only [Exit.inBlock, Exit.then]); refine bodyPost_ret (results_none rfl _ _ _) rfl ?_)
    exact ⟨rfl, ((HQ.out.set_3 _).set_1 _).set_4 _⟩
set_option maxHeartbeats 4000000 in
set_option maxRecDepth 100000 in
theorem QSt.ends {w0 w : World} {g : Nat} {s : ByteArray} {p : Int} {l : List S44} {cur : ByteArray} {keep : Int} (h : QSt w0 w g s p l cur keep) (k : Nat) (b : Bool) (hk0 : 0 ≤ keep) (hk1 : keep ≤ (cur.size : Int)) (hl : (l.length + 1) * 24 ≤ 140737488355328) (m q : Int) (hm : impl_MarkAt.f k s (wrap64 (p + 1)) = some m) (hq : m = 0 → impl_White.f k s (wrap64 (p + 1)) = some q) :
    Calls Try.prog 31 #[.pointer (some ⟨g, 0, none⟩), .bool b] w fun e w' => e = .returned (.bool (m == 0)) ∧ QSt w0 w' g s (if m = 0 then q else wrap64 (p + 1)) (l ++ [⟨if b = true then cur else cur.extract 0 keep.toNat, b⟩]) (⟨#[]⟩ : ByteArray) 0 := by
  have HQ := Aside0.mk h
  have HM := Aside0.mk hm
  have HP := Aside0.mk hq
  have HL := Aside0.mk hl
  obtain ⟨cu, hcu⟩ : ∃ cu : ByteArray, (if b = true then cur else cur.extract 0 keep.toNat) = cu := ⟨_, rfl⟩
  rw [hcu]
  have HC := Aside0.mk hcu
  clear h hm hq hl hcu
  go_enter Try.func31, Try.ntmps31
  go_upto_if 6 with fail
  go_cut [] (fun wc => Aside0 (QSt w0 wc g s p l cu keep))
  case first =>
    obtain ⟨A, c, k0, k1, k2, k3, k4, kf, hR⟩ := HQ.out.cells
    have f3 := kf 3
    clear hR kf k0 k1 k2
    cases b
    · have hcc := HC.out
      simp only [Bool.false_eq_true, if_false] at hcc
      obtain ⟨n, rfl⟩ := Int.eq_ofNat_of_zero_le hk0
      have hz := eq_true hk1
      go_wp2
      go_region
      all_goals (go_wp2; go_meet; case rel => (have HZ := (HQ.out.set_3 (cur.extract 0 n)).drew; rw [← hcc]; exact Aside0.mk (by simpa using HZ)))
    · have hcc := HC.out
      rw [if_pos rfl] at hcc
      subst hcc
      go_wp2
      go_meet
      case rel => exact HQ
  case rest =>
    clear HQ HC
    have HQ := hcut
    clear hcut
    go_upto_region 3 with fail
    go_cut [] (fun wd => Aside0 (QSt w0 wd g s p (l ++ [⟨cu, b⟩]) cu keep))
    case first =>
      obtain ⟨A, c, k0, k1, k2, k3, k4, kf, hR⟩ := HQ.out.cells
      have k2a := pw_cell_below (below_alloc (Below.refl wc.heap.size wc) (.cells #[.string cu, .bool b] 44)) k2
      have HQR := Aside0.mk (show Kd.R k44 44 wc.drew w0.heap.size (fun _ => True) (.slice A l.length c) l from Kd.R_drew hR)
      have HQB := Aside0.mk (show Below w0.heap.size w0 wc.drew from HQ.out.drew.out)
      have HQS := Aside0.mk (show w0.heap.size ≤ wc.drew.heap.size from HQ.out.out.size)
      have HQK := Aside0.mk (fun (v1 : Value) (w1 : World) (l' : List S44) hr1 hb1 hg1 => QSt.grown HQ.out.drew (show wc.drew.cell? ⟨g, 2, none⟩ = some (.slice A l.length c) from k2) (v1 := v1) (w1 := w1) (l' := l') hr1 hb1 hg1)
      clear kf hR
      go_region_law (refine Go.Proofs.Ytacmlggiklkbiaa.Mine.append_step k44 (w0 := w0) wc.drew w0.heap.size rfl (.tmp 23) (.tmp 30) 41 44 (.agg #[(.string ⟨#[]⟩), (.bool false)]) 24 rfl Try.underlying41 info44 rfl (by decide) (by decide) (.slice A l.length c) l ⟨cu, b⟩ [.string cu, .bool b] rfl rfl rfl (k44_mkM _ _ _ _) HQR.out HQB.out HQS.out HL.out ?_; intro v1 w1 hr1 hb1 hg1 _; obtain ⟨A1, c1, e1⟩ := Kd.R_slice hr1; subst e1; obtain ⟨m0, m1, m2, m3, m4, mf, mq⟩ := HQK.out _ _ _ hr1 hb1 hg1; have n0 := mf 1; have n1 := mf 2; have n2 := mf 3; have n3 := mf 4; have MQ := Aside0.mk mq; clear mf mq hr1 hb1 hg1)
      all_goals (go_wp2; go_meet; case rel => (rw [show (l ++ [(⟨cu, b⟩ : S44)]).length = l.length + 1 from by rw [List.length_append, List.length_singleton]] at MQ; exact MQ))
    case rest =>
      clear HQ
      have HQ := hcut
      clear hcut HL
      obtain ⟨A, c, k0, k1, k2, k3, k4, kf, hR⟩ := HQ.out.cells
      have f1 := kf 1
      have f3 := kf 3
      have f4 := kf 4
      clear kf hR k2
      have HS := Aside0.mk (((HQ.out.set_3 ⟨#[]⟩).set_4 0).set_1 (wrap64 (p + 1)))
      go_upto_region 7 with fail
      generalize ((wc.setCell ⟨g, 3, none⟩ (.string ⟨#[]⟩)).setCell ⟨g, 4, none⟩ (.int .i64 0)).setCell ⟨g, 1, none⟩ (.int .i64 (wrap64 (p + 1))) = wx at HS ⊢
      clear k0 k1 k3 k4 f1 f3 f4 HQ
      obtain ⟨A', c', k0, k1, k2, k3, k4, kf, hR⟩ := HS.out.cells
      clear kf hR k2 k3 k4
      go_cut [56] (fun v56 wy => v56 = .bool (m != 0) ∧ Aside0 (QSt w0 wy g s (wrap64 (p + 1)) (l ++ [⟨cu, b⟩]) ⟨#[]⟩ 0))
      case first =>
        go_region_law (first | fail | (go_simp; go_at_call 51; refine (impl_MarkAt.calls k s (wrap64 (p + 1)) m _ HM.out).mono ?_; rintro e w' ⟨rfl, hb⟩; have HT := Aside0.mk (HS.out.drew.below hb); clear hb))
        all_goals (go_wp2; go_meet; case rel => exact ⟨rfl, HT⟩)
      case rest =>
        clear HS k0 k1
        obtain ⟨rfl, HS⟩ := hcut
        obtain ⟨A, c, k0, k1, k2, k3, k4, kf, hR⟩ := HS.out.cells
        have f1 := kf 1
        clear kf hR k2 k3 k4
        by_cases c0 : m = 0
        · have HW := Aside0.mk (HP.out c0)
          subst c0
          go_wp2
          go_region_law (first | fail | (go_simp; go_at_call 52; refine (impl_White.calls k s (wrap64 (p + 1)) q _ HW.out).mono ?_; rintro e w' ⟨rfl, hb⟩; have HT := Aside0.mk (HS.out.drew.below hb); clear hb; obtain ⟨A', c', m0, m1, m2, m3, m4, mf, mR⟩ := HT.out.cells; have n1 := mf 1; clear mf mR m0 m2 m3 m4))
          all_goals go_wp2
          all_goals go_ret
          all_goals (have HU := HT.out.set_1 q)
          all_goals (refine ⟨by first | rfl | simp, ?_⟩; first | exact HU | simpa using HU)
        · have c1 : (m != 0) = true := by simpa using c0
          have c2 : (m == 0) = false := by simpa using c0
          have HE := Aside0.mk c0
          go_wp2
          go_ret
          refine ⟨by first | rfl | simp [HE.out], ?_⟩
          first | exact HS.out | (rw [if_neg HE.out]; exact HS.out) | simpa [HE.out] using HS.out
set_option maxHeartbeats 4000000 in
set_option maxRecDepth 100000 in
theorem QSt.done {w0 w : World} {g : Nat} {s : ByteArray} {p : Int} {l : List S44} {cur : ByteArray} {keep : Int} (h : QSt w0 w g s p l cur keep) (k : Nat) (hl : (l.length + 1) * 24 ≤ 140737488355328) (t : ByteArray) (ht : impl_FoldFlow.f k (l ++ [⟨cur, false⟩]) = some t) :
    Calls Try.prog 34 #[.pointer (some ⟨g, 0, none⟩)] w fun e w' => e = .returned (.tuple #[.string t, .int .i64 (wrap64 (p + 1)), .int .i64 0]) ∧ Below w0.heap.size w0 w' := by
  have HQ := Aside0.mk h
  have HT := Aside0.mk ht
  have HL := Aside0.mk hl
  clear h hl ht
  go_enter Try.func34, Try.ntmps34
  go_upto_region 1 with fail
  go_cut [] (fun wd => Aside0 (QSt w0 wd g s p (l ++ [⟨cur, false⟩]) cur keep))
  case first =>
    obtain ⟨A, c, k0, k1, k2, k3, k4, kf, hR⟩ := HQ.out.cells
    have k2a := pw_cell_below (below_alloc (Below.refl w.heap.size w) (.cells #[.string cur, .bool false] 44)) k2
    have HQR := Aside0.mk (show Kd.R k44 44 w.drew w0.heap.size (fun _ => True) (.slice A l.length c) l from Kd.R_drew hR)
    have HQB := Aside0.mk (show Below w0.heap.size w0 w.drew from HQ.out.drew.out)
    have HQS := Aside0.mk (show w0.heap.size ≤ w.drew.heap.size from HQ.out.out.size)
    have HQK := Aside0.mk (fun (v1 : Value) (w1 : World) (l' : List S44) hr1 hb1 hg1 => QSt.grown HQ.out.drew (show w.drew.cell? ⟨g, 2, none⟩ = some (.slice A l.length c) from k2) (v1 := v1) (w1 := w1) (l' := l') hr1 hb1 hg1)
    clear kf hR
    go_region_law (refine Go.Proofs.Ytacmlggiklkbiaa.Mine.append_step k44 (w0 := w0) w.drew w0.heap.size rfl (.tmp 9) (.tmp 15) 41 44 (.agg #[(.string ⟨#[]⟩), (.bool false)]) 24 rfl Try.underlying41 info44 rfl (by decide) (by decide) (.slice A l.length c) l ⟨cur, false⟩ [.string cur, .bool false] rfl rfl rfl (k44_mkM _ _ _ _) HQR.out HQB.out HQS.out HL.out ?_; intro v1 w1 hr1 hb1 hg1 _; obtain ⟨A1, c1, e1⟩ := Kd.R_slice hr1; subst e1; obtain ⟨m0, m1, m2, m3, m4, mf, mq⟩ := HQK.out _ _ _ hr1 hb1 hg1; have n0 := mf 1; have n1 := mf 2; have n2 := mf 3; have n3 := mf 4; have MQ := Aside0.mk mq; clear mf mq hr1 hb1 hg1)
    all_goals (go_wp2; go_meet; case rel => (rw [show (l ++ [(⟨cur, false⟩ : S44)]).length = l.length + 1 from by rw [List.length_append, List.length_singleton]] at MQ; exact MQ))
  case rest =>
    clear HQ
    have HQ := hcut
    clear hcut
    obtain ⟨A, c, k0, k1, k2, k3, k4, kf, hR⟩ := HQ.out.cells
    obtain ⟨_, hc, hC⟩ := Kd.R_reads' hR
    have HC := Aside0.mk (Kd.C_drew hC)
    have HN := Aside0.mk hc
    obtain ⟨n, hn⟩ : ∃ n, (l ++ [(⟨cur, false⟩ : S44)]).length = n := ⟨_, rfl⟩
    rw [hn] at k2
    have HE := Aside0.mk hn
    clear kf hR hc hC k0 k3 k4 hn
    go_upto_region 2 with fail
    go_cut [2, 3, 4] (fun v2 v3 v4 wd => v2 = .string t ∧ v3 = .int .i64 (wrap64 (p + 1)) ∧ v4 = .int .i64 0 ∧ Aside0 (QSt w0 wd g s p (l ++ [⟨cur, false⟩]) cur keep))
    case first =>
      go_region_law (first | fail | (go_simp; go_at_call 56; rw [← HE.out]; refine (impl_FoldFlow.calls k A c _ t _ HC.out HN.out HT.out).mono ?_; rintro e w' ⟨rfl, hb⟩; have HU := Aside0.mk (HQ.out.drew.below hb); clear hb; obtain ⟨A', c', m0, m1, m2, m3, m4, mf, mR⟩ := HU.out.cells; clear mf mR m0 m2 m3 m4))
      all_goals (go_wp2; go_meet; case rel => exact ⟨rfl, by first | rfl | rw [i64_w], rfl, by assumption⟩)
    case rest =>
      clear HQ HC HN HE k1 k2
      obtain ⟨rfl, rfl, rfl, HQ⟩ := hcut
      go_wp2
      go_ret3
      exact ⟨rfl, HQ.out.out⟩
theorem QSt.new {w0 W : World} (hB : Below w0.heap.size w0 W) (s : ByteArray) (p : Int) : QSt w0 (W.alloc (.cells #[.string s, .int .i64 p, .slice none 0 0, .string ⟨#[]⟩, .int .i64 0] 51)) W.heap.size s p [] ⟨#[]⟩ 0 :=
  ⟨_, heap_alloc_new W _, hB.size, hB.alloc hB.size _, Kd.R_nil _ _ _ _ _⟩
def impl_DoubleAt.l0 : Nat → ByteArray → Int → List S44 → ByteArray → Int → Option (ByteArray × Int × Int)
  | 0, _, _, _, _, _ => none
  | k + 1, s, p, l, cur, keep =>
    if p < (s.size : Int) then
      (if (0 ≤ p ∧ 0 ≤ keep ∧ keep ≤ (cur.size : Int) ∧ (l.length + 1) * 24 ≤ 140737488355328 ∧ cur.size + 1 ≤ 9223372036854775807) then
        (if bt s p = 10 then
          ((impl_MarkAt.f k s (wrap64 (p + 1))).bind fun m => (if m = 0 then ((impl_White.f k s (wrap64 (p + 1))).bind fun q => impl_DoubleAt.l0 k s q (l ++ [⟨cur.extract 0 keep.toNat, false⟩]) ⟨#[]⟩ 0) else (some ((⟨#[]⟩ : ByteArray), wrap64 (p + 1), 4))))
        else (if bt s p = 92 then
          ((impl_byteAt.f s (wrap64 (p + 1))).bind fun b2 => (if b2 = 10 then
            ((impl_MarkAt.f k s (wrap64 (wrap64 (p + 1) + 1))).bind fun m => (if m = 0 then ((impl_White.f k s (wrap64 (wrap64 (p + 1) + 1))).bind fun q => impl_DoubleAt.l0 k s q (l ++ [⟨cur, true⟩]) ⟨#[]⟩ 0) else (some ((⟨#[]⟩ : ByteArray), wrap64 (wrap64 (p + 1) + 1), 4))))
            else ((impl_EscapeAt.f k s p).bind fun te => (if te.2 = 0 then (some ((⟨#[]⟩ : ByteArray), p, 5)) else (if cur.size + te.1.size ≤ 9223372036854775807 then (impl_DoubleAt.l0 k s (wrap64 (p + wrap64 (te.2 - p))) l (cur ++ te.1) ((cur ++ te.1).size : Int)) else none)))))
        else (if bt s p = 34 then
          ((impl_FoldFlow.f k (l ++ [⟨cur, false⟩])).bind fun t => (some (t, wrap64 (p + 1), 0)))
        else ((impl_isWhite.f (bt s p)).bind fun wb => impl_DoubleAt.l0 k s (wrap64 (p + 1)) l (cur ++ strOfNums [bt s p]) (if wb = true then keep else ((cur ++ strOfNums [bt s p]).size : Int))))))
      else none)
    else (some ((⟨#[]⟩ : ByteArray), (s.size : Int), 3))
def impl_DoubleAt.f (k : Nat) (a0 : ByteArray) (a1 : Int) : Option (ByteArray × Int × Int) := (impl_spot.f a0 a1).bind fun p => ((impl_byteAt.f a0 p).bind fun b => (if b = 34 then (impl_DoubleAt.l0 k a0 (wrap64 (p + 1)) [] (⟨#[]⟩ : ByteArray) 0) else (some ((⟨#[]⟩ : ByteArray), p, 10))))
theorem impl_DoubleAt.mono_l : ∀ k s p l cur keep, LeO (impl_DoubleAt.l0 k s p l cur keep) (impl_DoubleAt.l0 (k + 1) s p l cur keep) := by
  intro k
  induction k with
  | zero => intro s p l cur keep; exact LeO.none _
  | succ k ih =>
    intro s p l cur keep
    unfold impl_DoubleAt.l0
    repeat' first
      | (with_reducible exact ih _ _ _ _ _)
      | (with_reducible exact impl_MarkAt.mono _ _ _)
      | (with_reducible exact impl_White.mono _ _ _)
      | (with_reducible exact impl_FoldFlow.mono _ _)
      | (with_reducible exact impl_EscapeAt.mono _ _ _)
      | (with_reducible exact LeO.refl _)
      | (with_reducible exact LeO.none _)
      | (with_reducible refine LeO.ite ?_ ?_)
      | (with_reducible refine LeO.bind ?_ (fun _ => ?_))
theorem impl_DoubleAt.mono : ∀ a0 a1 k, LeO (impl_DoubleAt.f k a0 a1) (impl_DoubleAt.f (k + 1) a0 a1) := by
  intro a0 a1 k
  unfold impl_DoubleAt.f
  repeat' first
    | (with_reducible exact impl_DoubleAt.mono_l _ _ _ _ _ _)
    | (with_reducible exact LeO.refl _)
    | (with_reducible exact LeO.none _)
    | (with_reducible refine LeO.ite ?_ ?_)
    | (with_reducible refine LeO.bind ?_ (fun _ => ?_))
set_option maxHeartbeats 8000000 in
set_option maxRecDepth 100000 in
theorem impl_DoubleAt.calls (k : Nat) (a0 : ByteArray) (a1 : Int) (r1 : ByteArray) (r2 : Int) (r3 : Int) (w : World) (h : impl_DoubleAt.f k a0 a1 = some (r1, r2, r3)) :
    Calls Try.prog 9 #[.string a0, .int .i64 a1] w fun e w' => e = .returned (.tuple #[.string r1, .int .i64 r2, .int .i64 r3]) ∧ Below w.heap.size w w' := by
  have HB := Aside0.mk (Below.refl w.heap.size w)
  have H := h
  clear h
  unfold impl_DoubleAt.f at H
  obtain ⟨p, h1, H⟩ := Option.bind_eq_some_iff.mp H
  obtain ⟨b, h2, H⟩ := Option.bind_eq_some_iff.mp H
  have H1 := Aside0.mk h1
  have H2 := Aside0.mk h2
  clear h1 h2
  by_cases c : b = 34
  · rw [if_pos c] at H
    subst c
    have HH := Aside0.mk H
    clear H
    go_enter Try.func9, Try.ntmps9
    go_upto_region 4 with (first | (go_at_call 29; refine (impl_spot.calls a0 a1 p _ H1.out).mono ?_; rintro e w1 ⟨rfl, hb⟩; have HB1 := Aside0.mk hb; clear hb) | (go_at_call 30; refine (impl_byteAt.calls a0 p 34 _ H2.out).mono ?_; rintro e w2 ⟨rfl, hb⟩; have HB2 := Aside0.mk (below_then HB1.out HB1.out.size hb); clear hb))
    have HQ := Aside0.mk (QSt.new HB2.out a0 (wrap64 (p + 1)))
    go_wp2
    generalize w2.heap.size = gx at HQ ⊢
    go_loopg [8] k (fun kq v8 wr => ∃ (p : Int) (l : List S44) (cur : ByteArray) (keep : Int), Aside0 (impl_DoubleAt.l0 kq a0 p l cur keep = some (r1, r2, r3)) ∧ Aside0 (QSt w wr gx a0 p l cur keep))
    case atStart => exact ⟨_, _, _, _, HH, HQ⟩
    case round =>
      clear H1 H2 HB1 HB2 HQ HH HB
      obtain ⟨p, l, cur, keep, HH, HQ⟩ := hrel
      obtain ⟨A, c, k0, k1, k2, k3, k4, kf, hR⟩ := HQ.out.cells
      clear hR k2 k3 k4 kf
      cases gk with
      | zero => exact absurd HH.out (by simp [impl_DoubleAt.l0])
      | succ gk =>
        have H := HH.out
        clear HH
        rw [impl_DoubleAt.l0] at H
        by_cases c1 : p < (a0.size : Int)
        · rw [if_pos c1] at H
          by_cases c2 : (0 ≤ p ∧ 0 ≤ keep ∧ keep ≤ (cur.size : Int) ∧ (l.length + 1) * 24 ≤ 140737488355328 ∧ cur.size + 1 ≤ 9223372036854775807)
          · rw [if_pos c2] at H
            obtain ⟨d0, d1, d2, d3, d4⟩ := c2
            have D1 := Aside0.mk d1
            have D2 := Aside0.mk d2
            have D3 := Aside0.mk d3
            have D4 := Aside0.mk d4
            have hx := bt_at a0 p
            have p1 := eq_true d0
            have q1 := eq_true c1
            clear d1 d2 d3 d4 d0 c1
            by_cases c3 : bt a0 p = 10
            · rw [if_pos c3] at H
              obtain ⟨m, hm, H⟩ := Option.bind_eq_some_iff.mp H
              have b1 : (bt a0 p == 10) = true := by simpa using c3
              have b92 : (bt a0 p == 92) = false := by rw [c3]; rfl
              by_cases cm : m = 0
              · subst cm
                rw [if_pos rfl] at H
                obtain ⟨q, hq, H⟩ := Option.bind_eq_some_iff.mp H
                have HM := Aside0.mk hm
                have HW := Aside0.mk hq
                have HH := Aside0.mk H
                clear hm hq H c3
                go_wp2_with (first | (go_at_call 31; refine (QSt.ends HQ.out gk false D1.out D2.out D3.out 0 q HM.out (fun _ => HW.out)).mono ?_; rintro e w' ⟨rfl, hQ⟩; have HQ' := Aside0.mk hQ; clear hQ))
                go_roundg gk
                case measure => omega
                case rel => exact ⟨_, _, _, _, HH, HQ'⟩
              · rw [if_neg cm] at H
                simp only [Option.some.injEq, Prod.mk.injEq] at H
                obtain ⟨rfl, rfl, rfl⟩ := H
                have HM := Aside0.mk hm
                have cm1 : (m == 0) = false := by simpa using cm
                have HC := Aside0.mk cm
                clear hm c3 cm
                go_wp2_with (first | (go_at_call 31; refine (QSt.ends HQ.out gk false D1.out D2.out D3.out m 0 HM.out (fun h => absurd h HC.out)).mono ?_; rintro e w' ⟨rfl, hQ⟩; have HQ' := Aside0.mk hQ; clear hQ; obtain ⟨A', c', k0', k1', k2', k3', k4', kf', hR'⟩ := HQ'.out.cells; clear hR' k0' k2' k3' k4' kf'))
                rw [if_neg HC.out] at k1'
                go_region
                all_goals (go_wp2; go_ret3; exact ⟨rfl, HQ'.out.drew.out⟩)
            · rw [if_neg c3] at H
              have b1 : (bt a0 p == 10) = false := by simpa using c3
              by_cases c4 : bt a0 p = 92
              · rw [if_pos c4] at H
                obtain ⟨b2, hb2, H⟩ := Option.bind_eq_some_iff.mp H
                have b3 : (bt a0 p == 92) = true := by simpa using c4
                have HB2 := Aside0.mk hb2
                by_cases c5 : b2 = 10
                · subst c5
                  rw [if_pos rfl] at H
                  obtain ⟨m, hm, H⟩ := Option.bind_eq_some_iff.mp H
                  by_cases cm : m = 0
                  · subst cm
                    rw [if_pos rfl] at H
                    obtain ⟨q, hq, H⟩ := Option.bind_eq_some_iff.mp H
                    have HM := Aside0.mk hm
                    have HW := Aside0.mk hq
                    have HH := Aside0.mk H
                    clear hm hq H c3 c4 hb2
                    go_wp2_with (first | (go_at_call 30; refine (impl_byteAt.calls a0 (wrap64 (p + 1)) 10 _ HB2.out).mono ?_; rintro e w' ⟨rfl, hb⟩; have HQ' := Aside0.mk (HQ.out.below hb); clear hb; obtain ⟨A', c', k0', k1', k2', k3', k4', kf', hR'⟩ := HQ'.out.cells; have f1' := kf' 1; clear hR' k0' k2' k3' k4' kf') | (go_at_call 31; refine (QSt.ends (HQ'.out.set_1 (wrap64 (p + 1))) gk true D1.out D2.out D3.out 0 q HM.out (fun _ => HW.out)).mono ?_; rintro e w' ⟨rfl, hQ⟩; have HQ'' := Aside0.mk hQ; clear hQ))
                    go_roundg gk
                    case measure => omega
                    case rel => exact ⟨_, _, _, _, HH, HQ''⟩
                  · rw [if_neg cm] at H
                    simp only [Option.some.injEq, Prod.mk.injEq] at H
                    obtain ⟨rfl, rfl, rfl⟩ := H
                    have HM := Aside0.mk hm
                    have cm1 : (m == 0) = false := by simpa using cm
                    have HC := Aside0.mk cm
                    clear hm c3 c4 hb2 cm
                    go_wp2_with (first | (go_at_call 30; refine (impl_byteAt.calls a0 (wrap64 (p + 1)) 10 _ HB2.out).mono ?_; rintro e w' ⟨rfl, hb⟩; have HQ' := Aside0.mk (HQ.out.below hb); clear hb; obtain ⟨A', c', k0', k1', k2', k3', k4', kf', hR'⟩ := HQ'.out.cells; have f1' := kf' 1; clear hR' k0' k2' k3' k4' kf') | (go_at_call 31; refine (QSt.ends (HQ'.out.set_1 (wrap64 (p + 1))) gk true D1.out D2.out D3.out m 0 HM.out (fun h => absurd h HC.out)).mono ?_; rintro e w' ⟨rfl, hQ⟩; have HQ'' := Aside0.mk hQ; clear hQ; obtain ⟨A'', c'', k0'', k1'', k2'', k3'', k4'', kf'', hR''⟩ := HQ''.out.cells; clear hR'' k0'' k2'' k3'' k4'' kf''))
                    rw [if_neg HC.out] at k1''
                    go_region
                    all_goals (go_wp2; go_ret3; exact ⟨rfl, HQ''.out.drew.out⟩)
                · rw [if_neg c5] at H
                  obtain ⟨te, hte, H⟩ := Option.bind_eq_some_iff.mp H
                  have b5 : (b2 == 10) = false := by simpa using c5
                  have HT := Aside0.mk hte
                  by_cases c6 : te.2 = 0
                  · rw [if_pos c6] at H
                    simp only [Option.some.injEq, Prod.mk.injEq] at H
                    obtain ⟨rfl, rfl, rfl⟩ := H
                    have b6 : (te.2 == 0) = true := by simpa using c6
                    clear c3 c4 hb2 c5 hte c6
                    go_wp2_with (first | (go_at_call 30; refine (impl_byteAt.calls a0 (wrap64 (p + 1)) b2 _ HB2.out).mono ?_; rintro e w' ⟨rfl, hb⟩; have HQ' := Aside0.mk (HQ.out.below hb); clear hb; obtain ⟨A', c', k0', k1', k2', k3', k4', kf', hR'⟩ := HQ'.out.cells; clear hR' k0' k2' k3' k4' kf') | (go_at_call 32; refine (impl_EscapeAt.calls gk a0 p te.1 te.2 _ HT.out).mono ?_; rintro e w' ⟨rfl, hb⟩; have HQ'' := Aside0.mk (HQ'.out.below hb); clear hb; obtain ⟨A'', c'', k0'', k1'', k2'', k3'', k4'', kf'', hR''⟩ := HQ''.out.cells; clear hR'' k0'' k2'' k3'' k4'' kf''))
                    go_region
                    all_goals (go_wp2; go_ret3; exact ⟨rfl, HQ''.out.drew.out⟩)
                  · rw [if_neg c6] at H
                    by_cases c7 : cur.size + te.1.size ≤ 9223372036854775807
                    · rw [if_pos c7] at H
                      have HH := Aside0.mk H
                      have b6 : (te.2 == 0) = false := by simpa using c6
                      have D7 := Aside0.mk c7
                      clear c3 c4 hb2 c5 hte c6 c7 H
                      go_wp2_with (first | (go_at_call 30; refine (impl_byteAt.calls a0 (wrap64 (p + 1)) b2 _ HB2.out).mono ?_; rintro e w' ⟨rfl, hb⟩; have HQ' := Aside0.mk (HQ.out.below hb); clear hb; obtain ⟨A', c', k0', k1', k2', k3', k4', kf', hR'⟩ := HQ'.out.cells; clear hR' k0' k2' k3' k4' kf') | (go_at_call 32; refine (impl_EscapeAt.calls gk a0 p te.1 te.2 _ HT.out).mono ?_; rintro e w' ⟨rfl, hb⟩; have HQ'' := Aside0.mk (HQ'.out.below hb); clear hb; obtain ⟨A'', c'', k0'', k1'', k2'', k3'', k4'', kf'', hR''⟩ := HQ''.out.cells; clear hR'' k0'' k2'' k3'' k4'' kf'') | (go_at_call 33; refine (QSt.put HQ''.out te.1 (wrap64 (te.2 - p)) true D7.out).mono ?_; rintro e w'' ⟨rfl, hQ⟩; have HR' := Aside0.mk hQ; clear hQ))
                      go_roundg gk
                      case measure => omega
                      case rel => exact ⟨_, _, _, _, HH, HR'⟩
                    · rw [if_neg c7] at H
                      exact absurd H (by simp)
              · rw [if_neg c4] at H
                have b3 : (bt a0 p == 92) = false := by simpa using c4
                by_cases c8 : bt a0 p = 34
                · rw [if_pos c8] at H
                  obtain ⟨t, ht, H⟩ := Option.bind_eq_some_iff.mp H
                  simp only [Option.some.injEq, Prod.mk.injEq] at H
                  obtain ⟨rfl, rfl, rfl⟩ := H
                  have HT := Aside0.mk ht
                  have b8 : (bt a0 p == 34) = true := by simpa using c8
                  clear ht c3 c4 c8
                  go_wp2_with (go_at_call 34; refine (QSt.done HQ.out gk D3.out t HT.out).mono ?_; rintro e w'' ⟨rfl, hQ⟩; have HR' := Aside0.mk hQ; clear hQ)
                  go_ret3
                  exact ⟨rfl, HR'.out⟩
                · rw [if_neg c8] at H
                  have b8 : (bt a0 p == 34) = false := by simpa using c8
                  obtain ⟨wb, hwb, H⟩ := Option.bind_eq_some_iff.mp H
                  have HW := Aside0.mk hwb
                  have HH := Aside0.mk H
                  clear hwb H c3 c4 c8
                  have hr := bt_range a0 p
                  have hw : wrap64 (bt a0 p) = bt a0 p := by unfold wrap64; omega
                  have hw2 : IntKind.i64.wrap (bt a0 p) = bt a0 p := by rw [i64_w, hw]
                  have hcv : ∀ wx : World, wx.cell? ⟨wr.heap.size, 0, none⟩ = some (.int .u8 (bt a0 p)) → (convert 42 9 (.slice (some ⟨wr.heap.size, 0, none⟩) 1 1)).run Try.prog wx = .ok (.string (strOfNums [bt a0 p])) wx := fun wx hx1 =>
                    run_convert_bytes_arg wx 42 5 Try.underlying42 Try.underlying5 wr.heap.size 0 1 1 [bt a0 p] rfl (fun i hi => by cases i with | zero => exact hx1 | succ i => exact absurd hi (by omega)) 9 Try.underlying9
                  have hcel : (wr.alloc (.cells #[.int .u8 (bt a0 p)] 5)).cell? ⟨wr.heap.size, 0, none⟩ = some (.int .u8 (bt a0 p)) := (blk_cell (heap_alloc_new wr (.cells #[.int .u8 (bt a0 p)] 5)) 0).trans rfl
                  have hcvA := fun m : Nat => hcv ((wr.drewN m).alloc (.cells #[.int .u8 (bt a0 p)] 5)) hcel
                  have hcvB := fun m : Nat => hcv ((wr.alloc (.cells #[.int .u8 (bt a0 p)] 5)).drewN m) hcel
                  have hcvC := hcv ((wr.alloc (.cells #[.int .u8 (bt a0 p)] 5)).drew) hcel
                  clear hcv hcel
                  have D5 := Aside0.mk (show cur.size + (strOfNums [bt a0 p]).size ≤ 9223372036854775807 by rw [strOfNums_size]; exact D4.out)
                  have HQW := Aside0.mk (fun (wx : World) (hb : Below wr.heap.size wr wx) => QSt.put (HQ.out.below hb) (strOfNums [bt a0 p]) 1 (!wb) D5.out)
                  clear hr hw
                  generalize strOfNums [bt a0 p] = tx at hcvA hcvB hcvC HQW HH D5 ⊢
                  have HH' := Aside0.mk (show impl_DoubleAt.l0 gk a0 (wrap64 (p + 1)) l (cur ++ tx) (if (!wb) = true then ((cur ++ tx).size : Int) else keep) = some (r1, r2, r3) by have q := HH.out; cases wb <;> simpa using q)
                  go_wp2
                  go_region_law (first | (go_simp; go_at_call 35; refine (impl_isWhite.calls (bt a0 p) wb _ HW.out).mono ?_; rintro e w' ⟨rfl, ⟨nd, rfl⟩⟩) | (go_simp; go_at_call 33; refine (HQW.out _ (by repeat (first | exact Below.refl _ _ | apply below_alloc | apply pw_below_drewN | apply below_drew1))).mono ?_; rintro e w' ⟨rfl, hQ⟩; have HR' := Aside0.mk hQ; clear hQ))
                  all_goals (go_wp2; go_roundg gk; (case measure => omega); (case rel => exact ⟨_, _, _, _, HH', HR'⟩))
          · rw [if_neg c2] at H
            exact absurd H (by simp)
        · rw [if_neg c1] at H
          simp only [Option.some.injEq, Prod.mk.injEq] at H
          obtain ⟨rfl, rfl, rfl⟩ := H
          have q1 := eq_false c1
          go_wp2
          go_ret3
          exact ⟨rfl, HQ.out.out⟩
  · rw [if_neg c] at H
    simp only [Option.some.injEq, Prod.mk.injEq] at H
    obtain ⟨rfl, rfl, rfl⟩ := H
    have cb : (b == 34) = false := by simpa using c
    have cb1 : (b != 34) = true := by simpa using c
    go_enter Try.func9, Try.ntmps9
    go_wp2_with (first | (go_at_call 29; refine (impl_spot.calls a0 a1 p _ H1.out).mono ?_; rintro e w1 ⟨rfl, hb⟩; have HB1 := Aside0.mk hb; clear hb) | (go_at_call 30; refine (impl_byteAt.calls a0 p b _ H2.out).mono ?_; rintro e w2 ⟨rfl, hb⟩; have HB2 := Aside0.mk (below_then HB1.out HB1.out.size hb); clear hb))
    go_ret3
    exact ⟨rfl, HB2.out⟩

/-! ### laws_FnExactDoubleAt: function 3 -/
def laws_FnExactDoubleAt.f (k : Nat) (a0 : ByteArray) (a1 : Int) : Option (Bool) := if (a0.size : Int) > 1048576 then (some true) else ((spec_DoubleAt.f k a0 a1).bind fun bt207 => ((impl_DoubleAt.f k a0 a1).bind fun bt210 => (if bt210.1.toList = bt207.1.toList then (if bt210.2.1 = bt207.2.1 then (if bt210.2.2 = bt207.2.2 then (some true) else (some false)) else (some false)) else (some false))))
theorem laws_FnExactDoubleAt.mono : ∀ a0 a1 k, LeO (laws_FnExactDoubleAt.f k a0 a1) (laws_FnExactDoubleAt.f (k + 1) a0 a1) := by
  intro a0 a1 k
  unfold laws_FnExactDoubleAt.f
  repeat' first
      | (with_reducible exact impl_DoubleAt.mono _ _ _)
      | (with_reducible exact spec_DoubleAt.mono _ _ _)
      | (with_reducible exact LeO.refl _)
      | (with_reducible exact LeO.none _)
      | (with_reducible refine LeO.ite ?_ ?_)
      | (with_reducible refine LeO.bind ?_ (fun _ => ?_))
      | exact impl_DoubleAt.mono _ _ _
      | exact spec_DoubleAt.mono _ _ _
      | exact LeO.none _
      | refine LeO.ite ?_ ?_
      | refine LeO.bind ?_ (fun _ => ?_)
set_option maxHeartbeats 8000000 in
set_option maxRecDepth 100000 in
theorem laws_FnExactDoubleAt.calls (k : Nat) (a0 : ByteArray) (a1 : Int) (r : Bool) (w : World) (h : laws_FnExactDoubleAt.f k a0 a1 = some r) :
    Calls Try.prog 3 #[.string a0, .int .i64 a1] w fun e w' => e = .returned (.bool r) ∧ Below w.heap.size w w' := by
  have HB := Aside0.mk (Below.refl w.heap.size w)
  have H : (if (a0.size : Int) > 1048576 then (some true) else ((spec_DoubleAt.f k a0 a1).bind fun bt207 => ((impl_DoubleAt.f k a0 a1).bind fun bt210 => (if bt210.1.toList = bt207.1.toList then (if bt210.2.1 = bt207.2.1 then (if bt210.2.2 = bt207.2.2 then (some true) else (some false)) else (some false)) else (some false))))) = some r := h
  clear h
  by_cases c3 : (a0.size : Int) > 1048576
  · rw [if_pos c3] at H
    have c3b0 : decide (1048576 < (a0.size : Int)) = true := decide_eq_true c3
    have c3b1 : decide (1048576 < a0.size) = true := decide_eq_true (by omega)
    clear c3
    obtain rfl := Option.some.inj H
    go_enter Try.func3, Try.ntmps3
    go_wp2
    go_ret
    exact ⟨by first | rfl | (simp [errW_none, errW_some] <;> rfl) | (simp [*, errW_none, errW_some] <;> rfl), by repeat (first | (with_reducible first | exact HB.out | apply below_alloc | apply pw_below_drewN | apply below_drew1) | exact HB.out)⟩
  · rw [if_neg c3] at H
    have c3b0 : decide (1048576 < (a0.size : Int)) = false := decide_eq_false c3
    have c3b1 : decide (1048576 < a0.size) = false := decide_eq_false (by omega)
    clear c3
    replace H := Option.bind_eq_some_iff.mp H
    obtain ⟨⟨t207, t208, t209⟩, A40, H⟩ := H
    replace H : ((impl_DoubleAt.f k a0 a1).bind fun bt210 => (if bt210.1.toList = t207.toList then (if bt210.2.1 = t208 then (if bt210.2.2 = t209 then (some true) else (some false)) else (some false)) else (some false))) = some r := H
    have A4 := Aside0.mk A40
    clear A40
    replace H := Option.bind_eq_some_iff.mp H
    obtain ⟨⟨t210, t211, t212⟩, A50, H⟩ := H
    replace H : (if t210.toList = t207.toList then (if t211 = t208 then (if t212 = t209 then (some true) else (some false)) else (some false)) else (some false)) = some r := H
    have A5 := Aside0.mk A50
    clear A50
    by_cases c6 : t210.toList = t207.toList
    · rw [if_pos c6] at H
      have c6b0 : (t210.toList == t207.toList) = true := beq_iff_eq.mpr c6
      have c6b1 : (t210.toList != t207.toList) = false := bne_eq_false_iff_eq.mpr c6
      clear c6
      by_cases c7 : t211 = t208
      · rw [if_pos c7] at H
        have c7b0 : (t211 == t208) = true := beq_iff_eq.mpr c7
        have c7b1 : (t211 != t208) = false := bne_eq_false_iff_eq.mpr c7
        clear c7
        by_cases c8 : t212 = t209
        · rw [if_pos c8] at H
          have c8b0 : (t212 == t209) = true := beq_iff_eq.mpr c8
          have c8b1 : (t212 != t209) = false := bne_eq_false_iff_eq.mpr c8
          clear c8
          obtain rfl := Option.some.inj H
          go_enter Try.func3, Try.ntmps3
          go_wp2_with (first | ((with_reducible refine gate_callee (f := 8) rfl ?_); refine goesL_ (some 17) rfl rfl Try.func8 (by kernel_rfl) rfl #[.string a0, .int .i64 a1] rfl (by (try simp only [List.map_toArray, List.map_cons, List.map_nil]); first | done | rfl | (simp only [List.length_drop, List.length_take]; rfl)) ?_; (with_reducible refine (spec_DoubleAt.calls k a0 a1 t207 t208 t209 _ A4.out).mono ?_); rintro e w9 ⟨rfl, hb⟩; refine ⟨_, rfl, ?_⟩; have n0_ := Aside0.mk (below_step (by repeat (first | (with_reducible first | exact HB.out | apply below_alloc | apply pw_below_drewN | apply below_drew1) | exact HB.out)) hb); clear HB; have HB := n0_; clear n0_; (try clear hb); (try clear hb2); (try clear hk); (try clear hi)) | ((with_reducible refine gate_callee (f := 9) rfl ?_); refine goesL_ (some 24) rfl rfl Try.func9 (by kernel_rfl) rfl #[.string a0, .int .i64 a1] rfl (by (try simp only [List.map_toArray, List.map_cons, List.map_nil]); first | done | rfl | (simp only [List.length_drop, List.length_take]; rfl)) ?_; (with_reducible refine (impl_DoubleAt.calls k a0 a1 t210 t211 t212 _ A5.out).mono ?_); rintro e w10 ⟨rfl, hb⟩; refine ⟨_, rfl, ?_⟩; have n0_ := Aside0.mk (below_step (by repeat (first | (with_reducible first | exact HB.out | apply below_alloc | apply pw_below_drewN | apply below_drew1) | exact HB.out)) hb); clear HB; have HB := n0_; clear n0_; (try clear hb); (try clear hb2); (try clear hk); (try clear hi)))
          go_ret
          exact ⟨by first | rfl | (simp [errW_none, errW_some] <;> rfl) | (simp [*, errW_none, errW_some] <;> rfl), by repeat (first | (with_reducible first | exact HB.out | apply below_alloc | apply pw_below_drewN | apply below_drew1) | exact HB.out)⟩
        · rw [if_neg c8] at H
          have c8b0 : (t212 == t209) = false := beq_eq_false_iff_ne.mpr c8
          have c8b1 : (t212 != t209) = true := bne_iff_ne.mpr c8
          obtain rfl := Option.some.inj H
          go_enter Try.func3, Try.ntmps3
          go_wp2_with (first | ((with_reducible refine gate_callee (f := 8) rfl ?_); refine goesL_ (some 17) rfl rfl Try.func8 (by kernel_rfl) rfl #[.string a0, .int .i64 a1] rfl (by (try simp only [List.map_toArray, List.map_cons, List.map_nil]); first | done | rfl | (simp only [List.length_drop, List.length_take]; rfl)) ?_; (with_reducible refine (spec_DoubleAt.calls k a0 a1 t207 t208 t209 _ A4.out).mono ?_); rintro e w11 ⟨rfl, hb⟩; refine ⟨_, rfl, ?_⟩; have n0_ := Aside0.mk (below_step (by repeat (first | (with_reducible first | exact HB.out | apply below_alloc | apply pw_below_drewN | apply below_drew1) | exact HB.out)) hb); clear HB; have HB := n0_; clear n0_; (try clear hb); (try clear hb2); (try clear hk); (try clear hi)) | ((with_reducible refine gate_callee (f := 9) rfl ?_); refine goesL_ (some 24) rfl rfl Try.func9 (by kernel_rfl) rfl #[.string a0, .int .i64 a1] rfl (by (try simp only [List.map_toArray, List.map_cons, List.map_nil]); first | done | rfl | (simp only [List.length_drop, List.length_take]; rfl)) ?_; (with_reducible refine (impl_DoubleAt.calls k a0 a1 t210 t211 t212 _ A5.out).mono ?_); rintro e w12 ⟨rfl, hb⟩; refine ⟨_, rfl, ?_⟩; have n0_ := Aside0.mk (below_step (by repeat (first | (with_reducible first | exact HB.out | apply below_alloc | apply pw_below_drewN | apply below_drew1) | exact HB.out)) hb); clear HB; have HB := n0_; clear n0_; (try clear hb); (try clear hb2); (try clear hk); (try clear hi)))
          go_ret
          exact ⟨by first | rfl | (simp [errW_none, errW_some] <;> rfl) | (simp [*, errW_none, errW_some] <;> rfl), by repeat (first | (with_reducible first | exact HB.out | apply below_alloc | apply pw_below_drewN | apply below_drew1) | exact HB.out)⟩
      · rw [if_neg c7] at H
        have c7b0 : (t211 == t208) = false := beq_eq_false_iff_ne.mpr c7
        have c7b1 : (t211 != t208) = true := bne_iff_ne.mpr c7
        obtain rfl := Option.some.inj H
        go_enter Try.func3, Try.ntmps3
        go_wp2_with (first | ((with_reducible refine gate_callee (f := 8) rfl ?_); refine goesL_ (some 17) rfl rfl Try.func8 (by kernel_rfl) rfl #[.string a0, .int .i64 a1] rfl (by (try simp only [List.map_toArray, List.map_cons, List.map_nil]); first | done | rfl | (simp only [List.length_drop, List.length_take]; rfl)) ?_; (with_reducible refine (spec_DoubleAt.calls k a0 a1 t207 t208 t209 _ A4.out).mono ?_); rintro e w13 ⟨rfl, hb⟩; refine ⟨_, rfl, ?_⟩; have n0_ := Aside0.mk (below_step (by repeat (first | (with_reducible first | exact HB.out | apply below_alloc | apply pw_below_drewN | apply below_drew1) | exact HB.out)) hb); clear HB; have HB := n0_; clear n0_; (try clear hb); (try clear hb2); (try clear hk); (try clear hi)) | ((with_reducible refine gate_callee (f := 9) rfl ?_); refine goesL_ (some 24) rfl rfl Try.func9 (by kernel_rfl) rfl #[.string a0, .int .i64 a1] rfl (by (try simp only [List.map_toArray, List.map_cons, List.map_nil]); first | done | rfl | (simp only [List.length_drop, List.length_take]; rfl)) ?_; (with_reducible refine (impl_DoubleAt.calls k a0 a1 t210 t211 t212 _ A5.out).mono ?_); rintro e w14 ⟨rfl, hb⟩; refine ⟨_, rfl, ?_⟩; have n0_ := Aside0.mk (below_step (by repeat (first | (with_reducible first | exact HB.out | apply below_alloc | apply pw_below_drewN | apply below_drew1) | exact HB.out)) hb); clear HB; have HB := n0_; clear n0_; (try clear hb); (try clear hb2); (try clear hk); (try clear hi)))
        go_ret
        exact ⟨by first | rfl | (simp [errW_none, errW_some] <;> rfl) | (simp [*, errW_none, errW_some] <;> rfl), by repeat (first | (with_reducible first | exact HB.out | apply below_alloc | apply pw_below_drewN | apply below_drew1) | exact HB.out)⟩
    · rw [if_neg c6] at H
      have c6b0 : (t210.toList == t207.toList) = false := beq_eq_false_iff_ne.mpr c6
      have c6b1 : (t210.toList != t207.toList) = true := bne_iff_ne.mpr c6
      obtain rfl := Option.some.inj H
      go_enter Try.func3, Try.ntmps3
      go_wp2_with (first | ((with_reducible refine gate_callee (f := 8) rfl ?_); refine goesL_ (some 17) rfl rfl Try.func8 (by kernel_rfl) rfl #[.string a0, .int .i64 a1] rfl (by (try simp only [List.map_toArray, List.map_cons, List.map_nil]); first | done | rfl | (simp only [List.length_drop, List.length_take]; rfl)) ?_; (with_reducible refine (spec_DoubleAt.calls k a0 a1 t207 t208 t209 _ A4.out).mono ?_); rintro e w15 ⟨rfl, hb⟩; refine ⟨_, rfl, ?_⟩; have n0_ := Aside0.mk (below_step (by repeat (first | (with_reducible first | exact HB.out | apply below_alloc | apply pw_below_drewN | apply below_drew1) | exact HB.out)) hb); clear HB; have HB := n0_; clear n0_; (try clear hb); (try clear hb2); (try clear hk); (try clear hi)) | ((with_reducible refine gate_callee (f := 9) rfl ?_); refine goesL_ (some 24) rfl rfl Try.func9 (by kernel_rfl) rfl #[.string a0, .int .i64 a1] rfl (by (try simp only [List.map_toArray, List.map_cons, List.map_nil]); first | done | rfl | (simp only [List.length_drop, List.length_take]; rfl)) ?_; (with_reducible refine (impl_DoubleAt.calls k a0 a1 t210 t211 t212 _ A5.out).mono ?_); rintro e w16 ⟨rfl, hb⟩; refine ⟨_, rfl, ?_⟩; have n0_ := Aside0.mk (below_step (by repeat (first | (with_reducible first | exact HB.out | apply below_alloc | apply pw_below_drewN | apply below_drew1) | exact HB.out)) hb); clear HB; have HB := n0_; clear n0_; (try clear hb); (try clear hb2); (try clear hk); (try clear hi)))
      go_ret
      exact ⟨by first | rfl | (simp [errW_none, errW_some] <;> rfl) | (simp [*, errW_none, errW_some] <;> rfl), by repeat (first | (with_reducible first | exact HB.out | apply below_alloc | apply pw_below_drewN | apply below_drew1) | exact HB.out)⟩

/-- THE ONE PURE STATEMENT of laws_FnExactDoubleAt: yours. -/
def laws_FnExactDoubleAt.Pure : Prop := ∀ (a0 : ByteArray) (a1 : Int), a0.size ≤ 140737488351232 → (Lit.int .i64 a1).wf = true → ∃ k, laws_FnExactDoubleAt.f k a0 a1 = some true
theorem laws_FnExactDoubleAt.walk (P : laws_FnExactDoubleAt.Pure) (a0 : ByteArray) (a1 : Int) (w : World) (w0 : a0.size ≤ 140737488351232) (w1 : (Lit.int .i64 a1).wf = true) :
    Calls Try.prog 3 #[.string a0, .int .i64 a1] w fun e w' => e = .returned (.bool true) ∧ Below w.heap.size w w' := by
  obtain ⟨k, h⟩ := P a0 a1 w0 w1
  refine (laws_FnExactDoubleAt.calls k a0 a1 true w h).mono ?_
  rintro e w' ⟨rfl, hd⟩
  exact ⟨rfl, hd⟩

end Go.Proofs.Ytacmlggiklkbiaa.PFnExactDoubleAt
