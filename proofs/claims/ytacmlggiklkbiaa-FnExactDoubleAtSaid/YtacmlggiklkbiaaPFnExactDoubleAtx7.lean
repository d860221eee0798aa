-- Written by a program of this session, out of the translation.
import Derived.Test.YtacmlggiklkbiaaPFnExactDoubleAtx0
import Derived.Test.YtacmlggiklkbiaaPFnExactDoubleAtx5
namespace Go.Proofs.Ytacmlggiklkbiaa.PFnExactDoubleAt
open Go.RowKit Go.Proofs.YtacmlggiklkbiaaW.PrintWords Go.Proofs.YtacmlggiklkbiaaW.PrintLast Go.Proofs.YtacmlggiklkbiaaW.PrintMore
attribute [local go_sem] max2_int min2_int max_two min_two max_three min_three max_four min_four   -- for this text's walks alone
set_option linter.unusedVariables false
set_option linter.unusedSimpArgs false

/-! ### impl_shortEscape: function 53 -/
mutual
def impl_shortEscape.j0 : Nat → Int → Int → Bool → Option (Int)
  | 0, _, _, _ => none
  | k + 1, x0, x3, x6 => if x6 = true then (some (wrap64 ((wrap64 (x0 - 97)) + 7))) else (if x3 = 116 then (impl_shortEscape.j1 k x0 x3 (x3 == 116)) else (impl_shortEscape.j1 k x0 x3 (x3 == 9)))
def impl_shortEscape.j1 : Nat → Int → Int → Bool → Option (Int)
  | 0, _, _, _ => none
  | k + 1, x0, x3, x12 => if x12 = true then (some 9) else (if x3 = 110 then (some 10) else (if x3 = 118 then (impl_shortEscape.j2 k x0 x3 (x3 == 118)) else (impl_shortEscape.j2 k x0 x3 (x3 == 102))))
def impl_shortEscape.j2 : Nat → Int → Int → Bool → Option (Int)
  | 0, _, _, _ => none
  | k + 1, x0, x3, x17 => if x17 = true then (some (Mine.mapGet [(118, 11), (102, 12)] x0)) else (if x3 = 114 then (some 13) else (if x3 = 101 then (some 27) else (if x3 = 32 then (impl_shortEscape.j3 k x0 x3 (x3 == 32)) else (if x3 = 34 then (impl_shortEscape.j3 k x0 x3 (x3 == 34)) else (if x3 = 47 then (impl_shortEscape.j3 k x0 x3 (x3 == 47)) else (impl_shortEscape.j3 k x0 x3 (x3 == 92)))))))
def impl_shortEscape.j3 : Nat → Int → Int → Bool → Option (Int)
  | 0, _, _, _ => none
  | k + 1, x0, x3, x28 => if x28 = true then (some x0) else (if x3 = 78 then (some 133) else (if x3 = 95 then (some 160) else (if x3 = 76 then (some 8232) else (if x3 = 80 then (some 8233) else (some (-1))))))
end
def impl_shortEscape.f (k : Nat) (a0 : Int) : Option (Int) := if a0 = 48 then (some 0) else (if a0 = 97 then (impl_shortEscape.j0 k a0 a0 (a0 == 97)) else (impl_shortEscape.j0 k a0 a0 (a0 == 98)))
theorem impl_shortEscape.mono_l : ∀ k, (∀ y0 y1 y2, LeO (impl_shortEscape.j0 k y0 y1 y2) (impl_shortEscape.j0 (k + 1) y0 y1 y2)) ∧ (∀ y0 y1 y2, LeO (impl_shortEscape.j1 k y0 y1 y2) (impl_shortEscape.j1 (k + 1) y0 y1 y2)) ∧ (∀ y0 y1 y2, LeO (impl_shortEscape.j2 k y0 y1 y2) (impl_shortEscape.j2 (k + 1) y0 y1 y2)) ∧ (∀ y0 y1 y2, LeO (impl_shortEscape.j3 k y0 y1 y2) (impl_shortEscape.j3 (k + 1) y0 y1 y2))
  | 0 => ⟨fun _ _ _ r h => by simp [impl_shortEscape.j0] at h, fun _ _ _ r h => by simp [impl_shortEscape.j1] at h, fun _ _ _ r h => by simp [impl_shortEscape.j2] at h, fun _ _ _ r h => by simp [impl_shortEscape.j3] at h⟩
  | k + 1 => by
    obtain ⟨ih0, ih1, ih2, ih3⟩ := impl_shortEscape.mono_l k
    refine ⟨?_, ?_, ?_, ?_⟩
    · intro y0 y1 y2
      unfold impl_shortEscape.j0
      repeat' first
      | (with_reducible exact ih0 _ _ _)
      | (with_reducible exact ih1 _ _ _)
      | (with_reducible exact ih2 _ _ _)
      | (with_reducible exact ih3 _ _ _)
      | (with_reducible exact LeO.refl _)
      | (with_reducible exact LeO.none _)
      | (with_reducible refine LeO.ite ?_ ?_)
      | (with_reducible refine LeO.bind ?_ (fun _ => ?_))
      | exact ih0 _ _ _
      | exact ih1 _ _ _
      | exact ih2 _ _ _
      | exact ih3 _ _ _
      | exact LeO.none _
      | refine LeO.ite ?_ ?_
      | refine LeO.bind ?_ (fun _ => ?_)
    · intro y0 y1 y2
      unfold impl_shortEscape.j1
      repeat' first
      | (with_reducible exact ih0 _ _ _)
      | (with_reducible exact ih1 _ _ _)
      | (with_reducible exact ih2 _ _ _)
      | (with_reducible exact ih3 _ _ _)
      | (with_reducible exact LeO.refl _)
      | (with_reducible exact LeO.none _)
      | (with_reducible refine LeO.ite ?_ ?_)
      | (with_reducible refine LeO.bind ?_ (fun _ => ?_))
      | exact ih0 _ _ _
      | exact ih1 _ _ _
      | exact ih2 _ _ _
      | exact ih3 _ _ _
      | exact LeO.none _
      | refine LeO.ite ?_ ?_
      | refine LeO.bind ?_ (fun _ => ?_)
    · intro y0 y1 y2
      unfold impl_shortEscape.j2
      repeat' first
      | (with_reducible exact ih0 _ _ _)
      | (with_reducible exact ih1 _ _ _)
      | (with_reducible exact ih2 _ _ _)
      | (with_reducible exact ih3 _ _ _)
      | (with_reducible exact LeO.refl _)
      | (with_reducible exact LeO.none _)
      | (with_reducible refine LeO.ite ?_ ?_)
      | (with_reducible refine LeO.bind ?_ (fun _ => ?_))
      | exact ih0 _ _ _
      | exact ih1 _ _ _
      | exact ih2 _ _ _
      | exact ih3 _ _ _
      | exact LeO.none _
      | refine LeO.ite ?_ ?_
      | refine LeO.bind ?_ (fun _ => ?_)
    · intro y0 y1 y2
      unfold impl_shortEscape.j3
      repeat' first
      | (with_reducible exact ih0 _ _ _)
      | (with_reducible exact ih1 _ _ _)
      | (with_reducible exact ih2 _ _ _)
      | (with_reducible exact ih3 _ _ _)
      | (with_reducible exact LeO.refl _)
      | (with_reducible exact LeO.none _)
      | (with_reducible refine LeO.ite ?_ ?_)
      | (with_reducible refine LeO.bind ?_ (fun _ => ?_))
      | exact ih0 _ _ _
      | exact ih1 _ _ _
      | exact ih2 _ _ _
      | exact ih3 _ _ _
      | exact LeO.none _
      | refine LeO.ite ?_ ?_
      | refine LeO.bind ?_ (fun _ => ?_)
theorem impl_shortEscape.mono : ∀ a0 k, LeO (impl_shortEscape.f k a0) (impl_shortEscape.f (k + 1) a0) := by
  intro a0 k
  obtain ⟨ih0, ih1, ih2, ih3⟩ := impl_shortEscape.mono_l k
  unfold impl_shortEscape.f
  repeat' first
      | (with_reducible exact ih0 _ _ _)
      | (with_reducible exact ih1 _ _ _)
      | (with_reducible exact ih2 _ _ _)
      | (with_reducible exact ih3 _ _ _)
      | (with_reducible exact LeO.refl _)
      | (with_reducible exact LeO.none _)
      | (with_reducible refine LeO.ite ?_ ?_)
      | (with_reducible refine LeO.bind ?_ (fun _ => ?_))
      | exact ih0 _ _ _
      | exact ih1 _ _ _
      | exact ih2 _ _ _
      | exact ih3 _ _ _
      | exact LeO.none _
      | refine LeO.ite ?_ ?_
      | refine LeO.bind ?_ (fun _ => ?_)
set_option maxHeartbeats 8000000 in
set_option maxRecDepth 100000 in
theorem impl_shortEscape.calls (k : Nat) (a0 : Int) (r : Int) (w : World) (h : impl_shortEscape.f k a0 = some r) :
    Calls Try.prog 53 #[.int .i64 a0] w fun e w' => e = .returned (.int .i64 r) ∧ Below w.heap.size w w' := by
  have HB := Aside0.mk (Below.refl w.heap.size w)
  have H : (if a0 = 48 then (some 0) else (if a0 = 97 then (impl_shortEscape.j0 k a0 a0 (a0 == 97)) else (impl_shortEscape.j0 k a0 a0 (a0 == 98)))) = some r := h
  clear h
  by_cases c2 : a0 = 48
  · rw [if_pos c2] at H
    have c2b0 : (a0 == 48) = true := beq_iff_eq.mpr c2
    have c2b1 : (a0 != 48) = false := bne_eq_false_iff_eq.mpr c2
    clear c2
    obtain rfl := Option.some.inj H
    go_enter Try.func53, Try.ntmps53
    go_wp2_with (first | ((with_reducible refine gate_dst (N := 20) rfl ?_); refine Go.Proofs.Ytacmlggiklkbiaa.Mine.map_make ?hg (t := 64) ?ho (below_size (by repeat (first | (with_reducible first | exact HB.out | apply below_alloc | apply pw_below_drewN | apply below_drew1) | exact HB.out))) (by repeat (first | (with_reducible first | exact HB.out | apply below_alloc | apply pw_below_drewN | apply below_drew1) | exact HB.out)) ?_; (case hg => rfl); (case ho => rfl); intro w_1 gM20 hm_ hg_ hb_; have n0_ := Aside0.mk hm_; have n1_ := Aside0.mk hg_; have n2_ := Aside0.mk hb_; clear HB; have HM20 := n0_; have GgM20 := n1_; have HB := n2_; clear n0_ n1_ n2_; clear hm_ hg_ hb_) | (refine Go.Proofs.Ytacmlggiklkbiaa.Mine.map_insert (g := gM20) (l := []) ?hg ?hd (t := 64) (kt := 3) (et := 3) (.tmp 20) 118 11 ?ho Try.underlying64 Try.underlying3 ?hm HM20.out GgM20.out (by decide) (by repeat (first | (with_reducible first | exact HB.out | apply below_alloc | apply pw_below_drewN | apply below_drew1) | exact HB.out)) ?_; (case ho => rfl); (case hg => rfl); (case hd => rfl); (case hm => first | rfl | (go_simp; done) | (go_simp; rfl)); intro w_1 hm_ hb_; have n0_ := Aside0.mk hm_; have n1_ := Aside0.mk hb_; clear HM20; clear HB; have HM20 := n0_; have HB := n1_; clear n0_ n1_; clear hm_ hb_) | (refine Go.Proofs.Ytacmlggiklkbiaa.Mine.map_insert (g := gM20) (l := [(118, 11)]) ?hg ?hd (t := 64) (kt := 3) (et := 3) (.tmp 20) 102 12 ?ho Try.underlying64 Try.underlying3 ?hm HM20.out GgM20.out (by decide) (by repeat (first | (with_reducible first | exact HB.out | apply below_alloc | apply pw_below_drewN | apply below_drew1) | exact HB.out)) ?_; (case ho => rfl); (case hg => rfl); (case hd => rfl); (case hm => first | rfl | (go_simp; done) | (go_simp; rfl)); intro w_1 hm_ hb_; have n0_ := Aside0.mk hm_; have n1_ := Aside0.mk hb_; clear HM20; clear HB; have HM20 := n0_; have HB := n1_; clear n0_ n1_; clear hm_ hb_) | ((with_reducible refine gate_dst (N := 23) rfl ?_); refine Go.Proofs.Ytacmlggiklkbiaa.Mine.map_look (w0 := w) (base := w.heap.size) (g := gM20) (l := [(118, 11), (102, 12)]) ?hg (t := 64) (kt := 3) (et := 3) (.tmp 21) (.tmp 22) ?ho Try.underlying64 Try.underlying3 Try.underlying3 ?kk ?hm ?hx HM20.out (Try.zeroValue3 _) ?_; (case ho => rfl); (case hg => rfl); (case hm => first | rfl | (go_simp; done) | (go_simp; rfl)); (case hx => first | rfl | (go_simp; done) | (go_simp; rfl))))
    go_ret
    exact ⟨by first | rfl | (simp [errW_none, errW_some] <;> rfl) | (simp [*, errW_none, errW_some] <;> rfl), by repeat (first | (with_reducible first | exact HB.out | apply below_alloc | apply pw_below_drewN | apply below_drew1) | exact HB.out)⟩
  · rw [if_neg c2] at H
    have c2b0 : (a0 == 48) = false := beq_eq_false_iff_ne.mpr c2
    have c2b1 : (a0 != 48) = true := bne_iff_ne.mpr c2
    have HC3 := Aside0.mk H
    clear H
    go_enter Try.func53, Try.ntmps53
    go_upto_if 6 with (fail)
    go_cut [6] (fun v6 wc => ∃ (kq : Nat) (x6_2 : Bool), v6 = .bool x6_2 ∧ Aside0 (impl_shortEscape.j0 kq a0 a0 x6_2 = some r) ∧ Aside0 (kq ≤ k) ∧ Aside0 (Below w.heap.size w wc))
    case first =>
      have H := HC3.out
      clear HC3
      by_cases c4 : a0 = 97
      · rw [if_pos c4] at H
        have c4b0 : (a0 == 97) = true := beq_iff_eq.mpr c4
        have c4b1 : (a0 != 97) = false := bne_eq_false_iff_eq.mpr c4
        clear c4
        (first | rw [c4b0] | (simp only [i64_w, i32_w]; rw [c4b0]) | skip)
        have H' := Aside0.mk H
        clear H
        go_wp2_with (first | ((with_reducible refine gate_dst (N := 20) rfl ?_); refine Go.Proofs.Ytacmlggiklkbiaa.Mine.map_make ?hg (t := 64) ?ho (below_size (by repeat (first | (with_reducible first | exact HB.out | apply below_alloc | apply pw_below_drewN | apply below_drew1) | exact HB.out))) (by repeat (first | (with_reducible first | exact HB.out | apply below_alloc | apply pw_below_drewN | apply below_drew1) | exact HB.out)) ?_; (case hg => rfl); (case ho => rfl); intro w_1 gM20 hm_ hg_ hb_; have n0_ := Aside0.mk hm_; have n1_ := Aside0.mk hg_; have n2_ := Aside0.mk hb_; clear HB; have HM20 := n0_; have GgM20 := n1_; have HB := n2_; clear n0_ n1_ n2_; clear hm_ hg_ hb_) | (refine Go.Proofs.Ytacmlggiklkbiaa.Mine.map_insert (g := gM20) (l := []) ?hg ?hd (t := 64) (kt := 3) (et := 3) (.tmp 20) 118 11 ?ho Try.underlying64 Try.underlying3 ?hm HM20.out GgM20.out (by decide) (by repeat (first | (with_reducible first | exact HB.out | apply below_alloc | apply pw_below_drewN | apply below_drew1) | exact HB.out)) ?_; (case ho => rfl); (case hg => rfl); (case hd => rfl); (case hm => first | rfl | (go_simp; done) | (go_simp; rfl)); intro w_1 hm_ hb_; have n0_ := Aside0.mk hm_; have n1_ := Aside0.mk hb_; clear HM20; clear HB; have HM20 := n0_; have HB := n1_; clear n0_ n1_; clear hm_ hb_) | (refine Go.Proofs.Ytacmlggiklkbiaa.Mine.map_insert (g := gM20) (l := [(118, 11)]) ?hg ?hd (t := 64) (kt := 3) (et := 3) (.tmp 20) 102 12 ?ho Try.underlying64 Try.underlying3 ?hm HM20.out GgM20.out (by decide) (by repeat (first | (with_reducible first | exact HB.out | apply below_alloc | apply pw_below_drewN | apply below_drew1) | exact HB.out)) ?_; (case ho => rfl); (case hg => rfl); (case hd => rfl); (case hm => first | rfl | (go_simp; done) | (go_simp; rfl)); intro w_1 hm_ hb_; have n0_ := Aside0.mk hm_; have n1_ := Aside0.mk hb_; clear HM20; clear HB; have HM20 := n0_; have HB := n1_; clear n0_ n1_; clear hm_ hb_) | ((with_reducible refine gate_dst (N := 23) rfl ?_); refine Go.Proofs.Ytacmlggiklkbiaa.Mine.map_look (w0 := w) (base := w.heap.size) (g := gM20) (l := [(118, 11), (102, 12)]) ?hg (t := 64) (kt := 3) (et := 3) (.tmp 21) (.tmp 22) ?ho Try.underlying64 Try.underlying3 Try.underlying3 ?kk ?hm ?hx HM20.out (Try.zeroValue3 _) ?_; (case ho => rfl); (case hg => rfl); (case hm => first | rfl | (go_simp; done) | (go_simp; rfl)); (case hx => first | rfl | (go_simp; done) | (go_simp; rfl))))
        go_meet
        case rel => exact ⟨_, ((a0 == 97)), (by first | rfl | (simp; done) | (simp [*]; done)), H', ⟨by first | omega | exact Nat.le_refl _⟩, ⟨by repeat (first | (with_reducible first | exact HB.out | apply below_alloc | apply pw_below_drewN | apply below_drew1) | exact HB.out)⟩⟩
      · rw [if_neg c4] at H
        have c4b0 : (a0 == 97) = false := beq_eq_false_iff_ne.mpr c4
        have c4b1 : (a0 != 97) = true := bne_iff_ne.mpr c4
        (first | rw [c4b0] | (simp only [i64_w, i32_w]; rw [c4b0]) | skip)
        have H' := Aside0.mk H
        clear H
        go_wp2_with (first | ((with_reducible refine gate_dst (N := 20) rfl ?_); refine Go.Proofs.Ytacmlggiklkbiaa.Mine.map_make ?hg (t := 64) ?ho (below_size (by repeat (first | (with_reducible first | exact HB.out | apply below_alloc | apply pw_below_drewN | apply below_drew1) | exact HB.out))) (by repeat (first | (with_reducible first | exact HB.out | apply below_alloc | apply pw_below_drewN | apply below_drew1) | exact HB.out)) ?_; (case hg => rfl); (case ho => rfl); intro w_1 gM20 hm_ hg_ hb_; have n0_ := Aside0.mk hm_; have n1_ := Aside0.mk hg_; have n2_ := Aside0.mk hb_; clear HB; have HM20 := n0_; have GgM20 := n1_; have HB := n2_; clear n0_ n1_ n2_; clear hm_ hg_ hb_) | (refine Go.Proofs.Ytacmlggiklkbiaa.Mine.map_insert (g := gM20) (l := []) ?hg ?hd (t := 64) (kt := 3) (et := 3) (.tmp 20) 118 11 ?ho Try.underlying64 Try.underlying3 ?hm HM20.out GgM20.out (by decide) (by repeat (first | (with_reducible first | exact HB.out | apply below_alloc | apply pw_below_drewN | apply below_drew1) | exact HB.out)) ?_; (case ho => rfl); (case hg => rfl); (case hd => rfl); (case hm => first | rfl | (go_simp; done) | (go_simp; rfl)); intro w_1 hm_ hb_; have n0_ := Aside0.mk hm_; have n1_ := Aside0.mk hb_; clear HM20; clear HB; have HM20 := n0_; have HB := n1_; clear n0_ n1_; clear hm_ hb_) | (refine Go.Proofs.Ytacmlggiklkbiaa.Mine.map_insert (g := gM20) (l := [(118, 11)]) ?hg ?hd (t := 64) (kt := 3) (et := 3) (.tmp 20) 102 12 ?ho Try.underlying64 Try.underlying3 ?hm HM20.out GgM20.out (by decide) (by repeat (first | (with_reducible first | exact HB.out | apply below_alloc | apply pw_below_drewN | apply below_drew1) | exact HB.out)) ?_; (case ho => rfl); (case hg => rfl); (case hd => rfl); (case hm => first | rfl | (go_simp; done) | (go_simp; rfl)); intro w_1 hm_ hb_; have n0_ := Aside0.mk hm_; have n1_ := Aside0.mk hb_; clear HM20; clear HB; have HM20 := n0_; have HB := n1_; clear n0_ n1_; clear hm_ hb_) | ((with_reducible refine gate_dst (N := 23) rfl ?_); refine Go.Proofs.Ytacmlggiklkbiaa.Mine.map_look (w0 := w) (base := w.heap.size) (g := gM20) (l := [(118, 11), (102, 12)]) ?hg (t := 64) (kt := 3) (et := 3) (.tmp 21) (.tmp 22) ?ho Try.underlying64 Try.underlying3 Try.underlying3 ?kk ?hm ?hx HM20.out (Try.zeroValue3 _) ?_; (case ho => rfl); (case hg => rfl); (case hm => first | rfl | (go_simp; done) | (go_simp; rfl)); (case hx => first | rfl | (go_simp; done) | (go_simp; rfl))))
        go_meet
        case rel => exact ⟨_, ((a0 == 98)), (by first | rfl | (simp; done) | (simp [*]; done)), H', ⟨by first | omega | exact Nat.le_refl _⟩, ⟨by repeat (first | (with_reducible first | exact HB.out | apply below_alloc | apply pw_below_drewN | apply below_drew1) | exact HB.out)⟩⟩
    case rest =>
      clear HC3
      try clear c2
      try clear c2b0
      try clear c2b1
      try clear p2
      try clear c4
      try clear c4b0
      try clear c4b1
      obtain ⟨kq, x6_2, rfl, HA, HJ2, HB⟩ := hcut
      cases kq with
      | zero => exact absurd HA.out (by simp [impl_shortEscape.j0])
      | succ kj2 =>
        have H := HA.out
        clear HA
        simp only [impl_shortEscape.j0] at H
        by_cases c5 : x6_2 = true
        · subst c5
          have H1 : (some (wrap64 ((wrap64 (a0 - 97)) + 7))) = some r := by rw [if_pos rfl] at H; exact H
          clear H
          have H := H1
          clear H1
          obtain rfl := Option.some.inj H
          go_wp2_with (first | ((with_reducible refine gate_dst (N := 20) rfl ?_); refine Go.Proofs.Ytacmlggiklkbiaa.Mine.map_make ?hg (t := 64) ?ho (below_size (by repeat (first | (with_reducible first | exact HB.out | apply below_alloc | apply pw_below_drewN | apply below_drew1) | exact HB.out))) (by repeat (first | (with_reducible first | exact HB.out | apply below_alloc | apply pw_below_drewN | apply below_drew1) | exact HB.out)) ?_; (case hg => rfl); (case ho => rfl); intro w_1 gM20 hm_ hg_ hb_; have n0_ := Aside0.mk hm_; have n1_ := Aside0.mk hg_; have n2_ := Aside0.mk hb_; clear HB; have HM20 := n0_; have GgM20 := n1_; have HB := n2_; clear n0_ n1_ n2_; clear hm_ hg_ hb_) | (refine Go.Proofs.Ytacmlggiklkbiaa.Mine.map_insert (g := gM20) (l := []) ?hg ?hd (t := 64) (kt := 3) (et := 3) (.tmp 20) 118 11 ?ho Try.underlying64 Try.underlying3 ?hm HM20.out GgM20.out (by decide) (by repeat (first | (with_reducible first | exact HB.out | apply below_alloc | apply pw_below_drewN | apply below_drew1) | exact HB.out)) ?_; (case ho => rfl); (case hg => rfl); (case hd => rfl); (case hm => first | rfl | (go_simp; done) | (go_simp; rfl)); intro w_1 hm_ hb_; have n0_ := Aside0.mk hm_; have n1_ := Aside0.mk hb_; clear HM20; clear HB; have HM20 := n0_; have HB := n1_; clear n0_ n1_; clear hm_ hb_) | (refine Go.Proofs.Ytacmlggiklkbiaa.Mine.map_insert (g := gM20) (l := [(118, 11)]) ?hg ?hd (t := 64) (kt := 3) (et := 3) (.tmp 20) 102 12 ?ho Try.underlying64 Try.underlying3 ?hm HM20.out GgM20.out (by decide) (by repeat (first | (with_reducible first | exact HB.out | apply below_alloc | apply pw_below_drewN | apply below_drew1) | exact HB.out)) ?_; (case ho => rfl); (case hg => rfl); (case hd => rfl); (case hm => first | rfl | (go_simp; done) | (go_simp; rfl)); intro w_1 hm_ hb_; have n0_ := Aside0.mk hm_; have n1_ := Aside0.mk hb_; clear HM20; clear HB; have HM20 := n0_; have HB := n1_; clear n0_ n1_; clear hm_ hb_) | ((with_reducible refine gate_dst (N := 23) rfl ?_); refine Go.Proofs.Ytacmlggiklkbiaa.Mine.map_look (w0 := w) (base := w.heap.size) (g := gM20) (l := [(118, 11), (102, 12)]) ?hg (t := 64) (kt := 3) (et := 3) (.tmp 21) (.tmp 22) ?ho Try.underlying64 Try.underlying3 Try.underlying3 ?kk ?hm ?hx HM20.out (Try.zeroValue3 _) ?_; (case ho => rfl); (case hg => rfl); (case hm => first | rfl | (go_simp; done) | (go_simp; rfl)); (case hx => first | rfl | (go_simp; done) | (go_simp; rfl))))
          go_ret
          exact ⟨by first | rfl | (simp [errW_none, errW_some] <;> rfl) | (simp [*, errW_none, errW_some] <;> rfl), by repeat (first | (with_reducible first | exact HB.out | apply below_alloc | apply pw_below_drewN | apply below_drew1) | exact HB.out)⟩
        · replace c5 := Bool.eq_false_iff.mpr c5
          subst c5
          have H1 : (if a0 = 116 then (impl_shortEscape.j1 kj2 a0 a0 (a0 == 116)) else (impl_shortEscape.j1 kj2 a0 a0 (a0 == 9))) = some r := by rw [if_neg (show ¬ (false = true) by decide)] at H; exact H
          clear H
          have H := H1
          clear H1
          have HC6 := Aside0.mk H
          clear H
          go_upto_if 12 with (fail)
          go_cut [12] (fun v12 wc => ∃ (kq : Nat) (x12_5 : Bool), v12 = .bool x12_5 ∧ Aside0 (impl_shortEscape.j1 kq a0 a0 x12_5 = some r) ∧ Aside0 (kq ≤ kj2) ∧ Aside0 (Below w.heap.size w wc))
          case first =>
            have H := HC6.out
            clear HC6
            by_cases c7 : a0 = 116
            · rw [if_pos c7] at H
              have c7b0 : (a0 == 116) = true := beq_iff_eq.mpr c7
              have c7b1 : (a0 != 116) = false := bne_eq_false_iff_eq.mpr c7
              clear c7
              (first | rw [c7b0] | (simp only [i64_w, i32_w]; rw [c7b0]) | skip)
              have H' := Aside0.mk H
              clear H
              go_wp2_with (first | ((with_reducible refine gate_dst (N := 20) rfl ?_); refine Go.Proofs.Ytacmlggiklkbiaa.Mine.map_make ?hg (t := 64) ?ho (below_size (by repeat (first | (with_reducible first | exact HB.out | apply below_alloc | apply pw_below_drewN | apply below_drew1) | exact HB.out))) (by repeat (first | (with_reducible first | exact HB.out | apply below_alloc | apply pw_below_drewN | apply below_drew1) | exact HB.out)) ?_; (case hg => rfl); (case ho => rfl); intro w_1 gM20 hm_ hg_ hb_; have n0_ := Aside0.mk hm_; have n1_ := Aside0.mk hg_; have n2_ := Aside0.mk hb_; clear HB; have HM20 := n0_; have GgM20 := n1_; have HB := n2_; clear n0_ n1_ n2_; clear hm_ hg_ hb_) | (refine Go.Proofs.Ytacmlggiklkbiaa.Mine.map_insert (g := gM20) (l := []) ?hg ?hd (t := 64) (kt := 3) (et := 3) (.tmp 20) 118 11 ?ho Try.underlying64 Try.underlying3 ?hm HM20.out GgM20.out (by decide) (by repeat (first | (with_reducible first | exact HB.out | apply below_alloc | apply pw_below_drewN | apply below_drew1) | exact HB.out)) ?_; (case ho => rfl); (case hg => rfl); (case hd => rfl); (case hm => first | rfl | (go_simp; done) | (go_simp; rfl)); intro w_1 hm_ hb_; have n0_ := Aside0.mk hm_; have n1_ := Aside0.mk hb_; clear HM20; clear HB; have HM20 := n0_; have HB := n1_; clear n0_ n1_; clear hm_ hb_) | (refine Go.Proofs.Ytacmlggiklkbiaa.Mine.map_insert (g := gM20) (l := [(118, 11)]) ?hg ?hd (t := 64) (kt := 3) (et := 3) (.tmp 20) 102 12 ?ho Try.underlying64 Try.underlying3 ?hm HM20.out GgM20.out (by decide) (by repeat (first | (with_reducible first | exact HB.out | apply below_alloc | apply pw_below_drewN | apply below_drew1) | exact HB.out)) ?_; (case ho => rfl); (case hg => rfl); (case hd => rfl); (case hm => first | rfl | (go_simp; done) | (go_simp; rfl)); intro w_1 hm_ hb_; have n0_ := Aside0.mk hm_; have n1_ := Aside0.mk hb_; clear HM20; clear HB; have HM20 := n0_; have HB := n1_; clear n0_ n1_; clear hm_ hb_) | ((with_reducible refine gate_dst (N := 23) rfl ?_); refine Go.Proofs.Ytacmlggiklkbiaa.Mine.map_look (w0 := w) (base := w.heap.size) (g := gM20) (l := [(118, 11), (102, 12)]) ?hg (t := 64) (kt := 3) (et := 3) (.tmp 21) (.tmp 22) ?ho Try.underlying64 Try.underlying3 Try.underlying3 ?kk ?hm ?hx HM20.out (Try.zeroValue3 _) ?_; (case ho => rfl); (case hg => rfl); (case hm => first | rfl | (go_simp; done) | (go_simp; rfl)); (case hx => first | rfl | (go_simp; done) | (go_simp; rfl))))
              go_meet
              case rel => exact ⟨_, ((a0 == 116)), (by first | rfl | (simp; done) | (simp [*]; done)), H', ⟨by have := HJ2.out; first | omega | exact Nat.le_refl _⟩, ⟨by repeat (first | (with_reducible first | exact HB.out | apply below_alloc | apply pw_below_drewN | apply below_drew1) | exact HB.out)⟩⟩
            · rw [if_neg c7] at H
              have c7b0 : (a0 == 116) = false := beq_eq_false_iff_ne.mpr c7
              have c7b1 : (a0 != 116) = true := bne_iff_ne.mpr c7
              (first | rw [c7b0] | (simp only [i64_w, i32_w]; rw [c7b0]) | skip)
              have H' := Aside0.mk H
              clear H
              go_wp2_with (first | ((with_reducible refine gate_dst (N := 20) rfl ?_); refine Go.Proofs.Ytacmlggiklkbiaa.Mine.map_make ?hg (t := 64) ?ho (below_size (by repeat (first | (with_reducible first | exact HB.out | apply below_alloc | apply pw_below_drewN | apply below_drew1) | exact HB.out))) (by repeat (first | (with_reducible first | exact HB.out | apply below_alloc | apply pw_below_drewN | apply below_drew1) | exact HB.out)) ?_; (case hg => rfl); (case ho => rfl); intro w_1 gM20 hm_ hg_ hb_; have n0_ := Aside0.mk hm_; have n1_ := Aside0.mk hg_; have n2_ := Aside0.mk hb_; clear HB; have HM20 := n0_; have GgM20 := n1_; have HB := n2_; clear n0_ n1_ n2_; clear hm_ hg_ hb_) | (refine Go.Proofs.Ytacmlggiklkbiaa.Mine.map_insert (g := gM20) (l := []) ?hg ?hd (t := 64) (kt := 3) (et := 3) (.tmp 20) 118 11 ?ho Try.underlying64 Try.underlying3 ?hm HM20.out GgM20.out (by decide) (by repeat (first | (with_reducible first | exact HB.out | apply below_alloc | apply pw_below_drewN | apply below_drew1) | exact HB.out)) ?_; (case ho => rfl); (case hg => rfl); (case hd => rfl); (case hm => first | rfl | (go_simp; done) | (go_simp; rfl)); intro w_1 hm_ hb_; have n0_ := Aside0.mk hm_; have n1_ := Aside0.mk hb_; clear HM20; clear HB; have HM20 := n0_; have HB := n1_; clear n0_ n1_; clear hm_ hb_) | (refine Go.Proofs.Ytacmlggiklkbiaa.Mine.map_insert (g := gM20) (l := [(118, 11)]) ?hg ?hd (t := 64) (kt := 3) (et := 3) (.tmp 20) 102 12 ?ho Try.underlying64 Try.underlying3 ?hm HM20.out GgM20.out (by decide) (by repeat (first | (with_reducible first | exact HB.out | apply below_alloc | apply pw_below_drewN | apply below_drew1) | exact HB.out)) ?_; (case ho => rfl); (case hg => rfl); (case hd => rfl); (case hm => first | rfl | (go_simp; done) | (go_simp; rfl)); intro w_1 hm_ hb_; have n0_ := Aside0.mk hm_; have n1_ := Aside0.mk hb_; clear HM20; clear HB; have HM20 := n0_; have HB := n1_; clear n0_ n1_; clear hm_ hb_) | ((with_reducible refine gate_dst (N := 23) rfl ?_); refine Go.Proofs.Ytacmlggiklkbiaa.Mine.map_look (w0 := w) (base := w.heap.size) (g := gM20) (l := [(118, 11), (102, 12)]) ?hg (t := 64) (kt := 3) (et := 3) (.tmp 21) (.tmp 22) ?ho Try.underlying64 Try.underlying3 Try.underlying3 ?kk ?hm ?hx HM20.out (Try.zeroValue3 _) ?_; (case ho => rfl); (case hg => rfl); (case hm => first | rfl | (go_simp; done) | (go_simp; rfl)); (case hx => first | rfl | (go_simp; done) | (go_simp; rfl))))
              go_meet
              case rel => exact ⟨_, ((a0 == 9)), (by first | rfl | (simp; done) | (simp [*]; done)), H', ⟨by have := HJ2.out; first | omega | exact Nat.le_refl _⟩, ⟨by repeat (first | (with_reducible first | exact HB.out | apply below_alloc | apply pw_below_drewN | apply below_drew1) | exact HB.out)⟩⟩
          case rest =>
            clear HC6
            try clear c2
            try clear c2b0
            try clear c2b1
            try clear p2
            try clear c4
            try clear c4b0
            try clear c4b1
            try clear c5
            try clear p6
            try clear c7
            try clear c7b0
            try clear c7b1
            try clear p2
            obtain ⟨kq, x12_5, rfl, HA, HJ5, HB⟩ := hcut
            cases kq with
            | zero => exact absurd HA.out (by simp [impl_shortEscape.j1])
            | succ kj5 =>
              have H := HA.out
              clear HA
              simp only [impl_shortEscape.j1] at H
              by_cases c8 : x12_5 = true
              · subst c8
                have H1 : (some 9) = some r := by rw [if_pos rfl] at H; exact H
                clear H
                have H := H1
                clear H1
                obtain rfl := Option.some.inj H
                go_wp2_with (first | ((with_reducible refine gate_dst (N := 20) rfl ?_); refine Go.Proofs.Ytacmlggiklkbiaa.Mine.map_make ?hg (t := 64) ?ho (below_size (by repeat (first | (with_reducible first | exact HB.out | apply below_alloc | apply pw_below_drewN | apply below_drew1) | exact HB.out))) (by repeat (first | (with_reducible first | exact HB.out | apply below_alloc | apply pw_below_drewN | apply below_drew1) | exact HB.out)) ?_; (case hg => rfl); (case ho => rfl); intro w_1 gM20 hm_ hg_ hb_; have n0_ := Aside0.mk hm_; have n1_ := Aside0.mk hg_; have n2_ := Aside0.mk hb_; clear HB; have HM20 := n0_; have GgM20 := n1_; have HB := n2_; clear n0_ n1_ n2_; clear hm_ hg_ hb_) | (refine Go.Proofs.Ytacmlggiklkbiaa.Mine.map_insert (g := gM20) (l := []) ?hg ?hd (t := 64) (kt := 3) (et := 3) (.tmp 20) 118 11 ?ho Try.underlying64 Try.underlying3 ?hm HM20.out GgM20.out (by decide) (by repeat (first | (with_reducible first | exact HB.out | apply below_alloc | apply pw_below_drewN | apply below_drew1) | exact HB.out)) ?_; (case ho => rfl); (case hg => rfl); (case hd => rfl); (case hm => first | rfl | (go_simp; done) | (go_simp; rfl)); intro w_1 hm_ hb_; have n0_ := Aside0.mk hm_; have n1_ := Aside0.mk hb_; clear HM20; clear HB; have HM20 := n0_; have HB := n1_; clear n0_ n1_; clear hm_ hb_) | (refine Go.Proofs.Ytacmlggiklkbiaa.Mine.map_insert (g := gM20) (l := [(118, 11)]) ?hg ?hd (t := 64) (kt := 3) (et := 3) (.tmp 20) 102 12 ?ho Try.underlying64 Try.underlying3 ?hm HM20.out GgM20.out (by decide) (by repeat (first | (with_reducible first | exact HB.out | apply below_alloc | apply pw_below_drewN | apply below_drew1) | exact HB.out)) ?_; (case ho => rfl); (case hg => rfl); (case hd => rfl); (case hm => first | rfl | (go_simp; done) | (go_simp; rfl)); intro w_1 hm_ hb_; have n0_ := Aside0.mk hm_; have n1_ := Aside0.mk hb_; clear HM20; clear HB; have HM20 := n0_; have HB := n1_; clear n0_ n1_; clear hm_ hb_) | ((with_reducible refine gate_dst (N := 23) rfl ?_); refine Go.Proofs.Ytacmlggiklkbiaa.Mine.map_look (w0 := w) (base := w.heap.size) (g := gM20) (l := [(118, 11), (102, 12)]) ?hg (t := 64) (kt := 3) (et := 3) (.tmp 21) (.tmp 22) ?ho Try.underlying64 Try.underlying3 Try.underlying3 ?kk ?hm ?hx HM20.out (Try.zeroValue3 _) ?_; (case ho => rfl); (case hg => rfl); (case hm => first | rfl | (go_simp; done) | (go_simp; rfl)); (case hx => first | rfl | (go_simp; done) | (go_simp; rfl))))
                go_ret
                exact ⟨by first | rfl | (simp [errW_none, errW_some] <;> rfl) | (simp [*, errW_none, errW_some] <;> rfl), by repeat (first | (with_reducible first | exact HB.out | apply below_alloc | apply pw_below_drewN | apply below_drew1) | exact HB.out)⟩
              · replace c8 := Bool.eq_false_iff.mpr c8
                subst c8
                have H1 : (if a0 = 110 then (some 10) else (if a0 = 118 then (impl_shortEscape.j2 kj5 a0 a0 (a0 == 118)) else (impl_shortEscape.j2 kj5 a0 a0 (a0 == 102)))) = some r := by rw [if_neg (show ¬ (false = true) by decide)] at H; exact H
                clear H
                have H := H1
                clear H1
                by_cases c9 : a0 = 110
                · rw [if_pos c9] at H
                  have c9b0 : (a0 == 110) = true := beq_iff_eq.mpr c9
                  have c9b1 : (a0 != 110) = false := bne_eq_false_iff_eq.mpr c9
                  clear c9
                  obtain rfl := Option.some.inj H
                  go_wp2_with (first | ((with_reducible refine gate_dst (N := 20) rfl ?_); refine Go.Proofs.Ytacmlggiklkbiaa.Mine.map_make ?hg (t := 64) ?ho (below_size (by repeat (first | (with_reducible first | exact HB.out | apply below_alloc | apply pw_below_drewN | apply below_drew1) | exact HB.out))) (by repeat (first | (with_reducible first | exact HB.out | apply below_alloc | apply pw_below_drewN | apply below_drew1) | exact HB.out)) ?_; (case hg => rfl); (case ho => rfl); intro w_1 gM20 hm_ hg_ hb_; have n0_ := Aside0.mk hm_; have n1_ := Aside0.mk hg_; have n2_ := Aside0.mk hb_; clear HB; have HM20 := n0_; have GgM20 := n1_; have HB := n2_; clear n0_ n1_ n2_; clear hm_ hg_ hb_) | (refine Go.Proofs.Ytacmlggiklkbiaa.Mine.map_insert (g := gM20) (l := []) ?hg ?hd (t := 64) (kt := 3) (et := 3) (.tmp 20) 118 11 ?ho Try.underlying64 Try.underlying3 ?hm HM20.out GgM20.out (by decide) (by repeat (first | (with_reducible first | exact HB.out | apply below_alloc | apply pw_below_drewN | apply below_drew1) | exact HB.out)) ?_; (case ho => rfl); (case hg => rfl); (case hd => rfl); (case hm => first | rfl | (go_simp; done) | (go_simp; rfl)); intro w_1 hm_ hb_; have n0_ := Aside0.mk hm_; have n1_ := Aside0.mk hb_; clear HM20; clear HB; have HM20 := n0_; have HB := n1_; clear n0_ n1_; clear hm_ hb_) | (refine Go.Proofs.Ytacmlggiklkbiaa.Mine.map_insert (g := gM20) (l := [(118, 11)]) ?hg ?hd (t := 64) (kt := 3) (et := 3) (.tmp 20) 102 12 ?ho Try.underlying64 Try.underlying3 ?hm HM20.out GgM20.out (by decide) (by repeat (first | (with_reducible first | exact HB.out | apply below_alloc | apply pw_below_drewN | apply below_drew1) | exact HB.out)) ?_; (case ho => rfl); (case hg => rfl); (case hd => rfl); (case hm => first | rfl | (go_simp; done) | (go_simp; rfl)); intro w_1 hm_ hb_; have n0_ := Aside0.mk hm_; have n1_ := Aside0.mk hb_; clear HM20; clear HB; have HM20 := n0_; have HB := n1_; clear n0_ n1_; clear hm_ hb_) | ((with_reducible refine gate_dst (N := 23) rfl ?_); refine Go.Proofs.Ytacmlggiklkbiaa.Mine.map_look (w0 := w) (base := w.heap.size) (g := gM20) (l := [(118, 11), (102, 12)]) ?hg (t := 64) (kt := 3) (et := 3) (.tmp 21) (.tmp 22) ?ho Try.underlying64 Try.underlying3 Try.underlying3 ?kk ?hm ?hx HM20.out (Try.zeroValue3 _) ?_; (case ho => rfl); (case hg => rfl); (case hm => first | rfl | (go_simp; done) | (go_simp; rfl)); (case hx => first | rfl | (go_simp; done) | (go_simp; rfl))))
                  go_ret
                  exact ⟨by first | rfl | (simp [errW_none, errW_some] <;> rfl) | (simp [*, errW_none, errW_some] <;> rfl), by repeat (first | (with_reducible first | exact HB.out | apply below_alloc | apply pw_below_drewN | apply below_drew1) | exact HB.out)⟩
                · rw [if_neg c9] at H
                  have c9b0 : (a0 == 110) = false := beq_eq_false_iff_ne.mpr c9
                  have c9b1 : (a0 != 110) = true := bne_iff_ne.mpr c9
                  have HC10 := Aside0.mk H
                  clear H
                  go_upto_if 17 with (fail)
                  go_cut [17] (fun v17 wc => ∃ (kq : Nat) (x17_9 : Bool), v17 = .bool x17_9 ∧ Aside0 (impl_shortEscape.j2 kq a0 a0 x17_9 = some r) ∧ Aside0 (kq ≤ kj5) ∧ Aside0 (Below w.heap.size w wc))
                  case first =>
                    have H := HC10.out
                    clear HC10
                    by_cases c11 : a0 = 118
                    · rw [if_pos c11] at H
                      have c11b0 : (a0 == 118) = true := beq_iff_eq.mpr c11
                      have c11b1 : (a0 != 118) = false := bne_eq_false_iff_eq.mpr c11
                      clear c11
                      (first | rw [c11b0] | (simp only [i64_w, i32_w]; rw [c11b0]) | skip)
                      have H' := Aside0.mk H
                      clear H
                      go_wp2_with (first | ((with_reducible refine gate_dst (N := 20) rfl ?_); refine Go.Proofs.Ytacmlggiklkbiaa.Mine.map_make ?hg (t := 64) ?ho (below_size (by repeat (first | (with_reducible first | exact HB.out | apply below_alloc | apply pw_below_drewN | apply below_drew1) | exact HB.out))) (by repeat (first | (with_reducible first | exact HB.out | apply below_alloc | apply pw_below_drewN | apply below_drew1) | exact HB.out)) ?_; (case hg => rfl); (case ho => rfl); intro w_1 gM20 hm_ hg_ hb_; have n0_ := Aside0.mk hm_; have n1_ := Aside0.mk hg_; have n2_ := Aside0.mk hb_; clear HB; have HM20 := n0_; have GgM20 := n1_; have HB := n2_; clear n0_ n1_ n2_; clear hm_ hg_ hb_) | (refine Go.Proofs.Ytacmlggiklkbiaa.Mine.map_insert (g := gM20) (l := []) ?hg ?hd (t := 64) (kt := 3) (et := 3) (.tmp 20) 118 11 ?ho Try.underlying64 Try.underlying3 ?hm HM20.out GgM20.out (by decide) (by repeat (first | (with_reducible first | exact HB.out | apply below_alloc | apply pw_below_drewN | apply below_drew1) | exact HB.out)) ?_; (case ho => rfl); (case hg => rfl); (case hd => rfl); (case hm => first | rfl | (go_simp; done) | (go_simp; rfl)); intro w_1 hm_ hb_; have n0_ := Aside0.mk hm_; have n1_ := Aside0.mk hb_; clear HM20; clear HB; have HM20 := n0_; have HB := n1_; clear n0_ n1_; clear hm_ hb_) | (refine Go.Proofs.Ytacmlggiklkbiaa.Mine.map_insert (g := gM20) (l := [(118, 11)]) ?hg ?hd (t := 64) (kt := 3) (et := 3) (.tmp 20) 102 12 ?ho Try.underlying64 Try.underlying3 ?hm HM20.out GgM20.out (by decide) (by repeat (first | (with_reducible first | exact HB.out | apply below_alloc | apply pw_below_drewN | apply below_drew1) | exact HB.out)) ?_; (case ho => rfl); (case hg => rfl); (case hd => rfl); (case hm => first | rfl | (go_simp; done) | (go_simp; rfl)); intro w_1 hm_ hb_; have n0_ := Aside0.mk hm_; have n1_ := Aside0.mk hb_; clear HM20; clear HB; have HM20 := n0_; have HB := n1_; clear n0_ n1_; clear hm_ hb_) | ((with_reducible refine gate_dst (N := 23) rfl ?_); refine Go.Proofs.Ytacmlggiklkbiaa.Mine.map_look (w0 := w) (base := w.heap.size) (g := gM20) (l := [(118, 11), (102, 12)]) ?hg (t := 64) (kt := 3) (et := 3) (.tmp 21) (.tmp 22) ?ho Try.underlying64 Try.underlying3 Try.underlying3 ?kk ?hm ?hx HM20.out (Try.zeroValue3 _) ?_; (case ho => rfl); (case hg => rfl); (case hm => first | rfl | (go_simp; done) | (go_simp; rfl)); (case hx => first | rfl | (go_simp; done) | (go_simp; rfl))))
                      go_meet
                      case rel => exact ⟨_, ((a0 == 118)), (by first | rfl | (simp; done) | (simp [*]; done)), H', ⟨by have := HJ2.out; have := HJ5.out; first | omega | exact Nat.le_refl _⟩, ⟨by repeat (first | (with_reducible first | exact HB.out | apply below_alloc | apply pw_below_drewN | apply below_drew1) | exact HB.out)⟩⟩
                    · rw [if_neg c11] at H
                      have c11b0 : (a0 == 118) = false := beq_eq_false_iff_ne.mpr c11
                      have c11b1 : (a0 != 118) = true := bne_iff_ne.mpr c11
                      (first | rw [c11b0] | (simp only [i64_w, i32_w]; rw [c11b0]) | skip)
                      have H' := Aside0.mk H
                      clear H
                      go_wp2_with (first | ((with_reducible refine gate_dst (N := 20) rfl ?_); refine Go.Proofs.Ytacmlggiklkbiaa.Mine.map_make ?hg (t := 64) ?ho (below_size (by repeat (first | (with_reducible first | exact HB.out | apply below_alloc | apply pw_below_drewN | apply below_drew1) | exact HB.out))) (by repeat (first | (with_reducible first | exact HB.out | apply below_alloc | apply pw_below_drewN | apply below_drew1) | exact HB.out)) ?_; (case hg => rfl); (case ho => rfl); intro w_1 gM20 hm_ hg_ hb_; have n0_ := Aside0.mk hm_; have n1_ := Aside0.mk hg_; have n2_ := Aside0.mk hb_; clear HB; have HM20 := n0_; have GgM20 := n1_; have HB := n2_; clear n0_ n1_ n2_; clear hm_ hg_ hb_) | (refine Go.Proofs.Ytacmlggiklkbiaa.Mine.map_insert (g := gM20) (l := []) ?hg ?hd (t := 64) (kt := 3) (et := 3) (.tmp 20) 118 11 ?ho Try.underlying64 Try.underlying3 ?hm HM20.out GgM20.out (by decide) (by repeat (first | (with_reducible first | exact HB.out | apply below_alloc | apply pw_below_drewN | apply below_drew1) | exact HB.out)) ?_; (case ho => rfl); (case hg => rfl); (case hd => rfl); (case hm => first | rfl | (go_simp; done) | (go_simp; rfl)); intro w_1 hm_ hb_; have n0_ := Aside0.mk hm_; have n1_ := Aside0.mk hb_; clear HM20; clear HB; have HM20 := n0_; have HB := n1_; clear n0_ n1_; clear hm_ hb_) | (refine Go.Proofs.Ytacmlggiklkbiaa.Mine.map_insert (g := gM20) (l := [(118, 11)]) ?hg ?hd (t := 64) (kt := 3) (et := 3) (.tmp 20) 102 12 ?ho Try.underlying64 Try.underlying3 ?hm HM20.out GgM20.out (by decide) (by repeat (first | (with_reducible first | exact HB.out | apply below_alloc | apply pw_below_drewN | apply below_drew1) | exact HB.out)) ?_; (case ho => rfl); (case hg => rfl); (case hd => rfl); (case hm => first | rfl | (go_simp; done) | (go_simp; rfl)); intro w_1 hm_ hb_; have n0_ := Aside0.mk hm_; have n1_ := Aside0.mk hb_; clear HM20; clear HB; have HM20 := n0_; have HB := n1_; clear n0_ n1_; clear hm_ hb_) | ((with_reducible refine gate_dst (N := 23) rfl ?_); refine Go.Proofs.Ytacmlggiklkbiaa.Mine.map_look (w0 := w) (base := w.heap.size) (g := gM20) (l := [(118, 11), (102, 12)]) ?hg (t := 64) (kt := 3) (et := 3) (.tmp 21) (.tmp 22) ?ho Try.underlying64 Try.underlying3 Try.underlying3 ?kk ?hm ?hx HM20.out (Try.zeroValue3 _) ?_; (case ho => rfl); (case hg => rfl); (case hm => first | rfl | (go_simp; done) | (go_simp; rfl)); (case hx => first | rfl | (go_simp; done) | (go_simp; rfl))))
                      go_meet
                      case rel => exact ⟨_, ((a0 == 102)), (by first | rfl | (simp; done) | (simp [*]; done)), H', ⟨by have := HJ2.out; have := HJ5.out; first | omega | exact Nat.le_refl _⟩, ⟨by repeat (first | (with_reducible first | exact HB.out | apply below_alloc | apply pw_below_drewN | apply below_drew1) | exact HB.out)⟩⟩
                  case rest =>
                    clear HC10
                    try clear c1
                    try clear c2
                    try clear c2b0
                    try clear c2b1
                    try clear p2
                    try clear c4
                    try clear c4b0
                    try clear c4b1
                    try clear c5
                    try clear p6
                    try clear c7
                    try clear c7b0
                    try clear c7b1
                    try clear c8
                    try clear c9
                    try clear c9b0
                    try clear c9b1
                    try clear c11
                    try clear c11b0
                    try clear c11b1
                    try clear p2
                    try clear p6
                    obtain ⟨kq, x17_9, rfl, HA, HJ9, HB⟩ := hcut
                    cases kq with
                    | zero => exact absurd HA.out (by simp [impl_shortEscape.j2])
                    | succ kj9 =>
                      have H := HA.out
                      clear HA
                      simp only [impl_shortEscape.j2] at H
                      by_cases c12 : x17_9 = true
                      · subst c12
                        have H1 : (some (Mine.mapGet [(118, 11), (102, 12)] a0)) = some r := by rw [if_pos rfl] at H; exact H
                        clear H
                        have H := H1
                        clear H1
                        obtain rfl := Option.some.inj H
                        go_wp2_with (first | ((with_reducible refine gate_dst (N := 20) rfl ?_); refine Go.Proofs.Ytacmlggiklkbiaa.Mine.map_make ?hg (t := 64) ?ho (below_size (by repeat (first | (with_reducible first | exact HB.out | apply below_alloc | apply pw_below_drewN | apply below_drew1) | exact HB.out))) (by repeat (first | (with_reducible first | exact HB.out | apply below_alloc | apply pw_below_drewN | apply below_drew1) | exact HB.out)) ?_; (case hg => rfl); (case ho => rfl); intro w_1 gM20 hm_ hg_ hb_; have n0_ := Aside0.mk hm_; have n1_ := Aside0.mk hg_; have n2_ := Aside0.mk hb_; clear HB; have HM20 := n0_; have GgM20 := n1_; have HB := n2_; clear n0_ n1_ n2_; clear hm_ hg_ hb_) | (refine Go.Proofs.Ytacmlggiklkbiaa.Mine.map_insert (g := gM20) (l := []) ?hg ?hd (t := 64) (kt := 3) (et := 3) (.tmp 20) 118 11 ?ho Try.underlying64 Try.underlying3 ?hm HM20.out GgM20.out (by decide) (by repeat (first | (with_reducible first | exact HB.out | apply below_alloc | apply pw_below_drewN | apply below_drew1) | exact HB.out)) ?_; (case ho => rfl); (case hg => rfl); (case hd => rfl); (case hm => first | rfl | (go_simp; done) | (go_simp; rfl)); intro w_1 hm_ hb_; have n0_ := Aside0.mk hm_; have n1_ := Aside0.mk hb_; clear HM20; clear HB; have HM20 := n0_; have HB := n1_; clear n0_ n1_; clear hm_ hb_) | (refine Go.Proofs.Ytacmlggiklkbiaa.Mine.map_insert (g := gM20) (l := [(118, 11)]) ?hg ?hd (t := 64) (kt := 3) (et := 3) (.tmp 20) 102 12 ?ho Try.underlying64 Try.underlying3 ?hm HM20.out GgM20.out (by decide) (by repeat (first | (with_reducible first | exact HB.out | apply below_alloc | apply pw_below_drewN | apply below_drew1) | exact HB.out)) ?_; (case ho => rfl); (case hg => rfl); (case hd => rfl); (case hm => first | rfl | (go_simp; done) | (go_simp; rfl)); intro w_1 hm_ hb_; have n0_ := Aside0.mk hm_; have n1_ := Aside0.mk hb_; clear HM20; clear HB; have HM20 := n0_; have HB := n1_; clear n0_ n1_; clear hm_ hb_) | ((with_reducible refine gate_dst (N := 23) rfl ?_); refine Go.Proofs.Ytacmlggiklkbiaa.Mine.map_look (w0 := w) (base := w.heap.size) (g := gM20) (l := [(118, 11), (102, 12)]) ?hg (t := 64) (kt := 3) (et := 3) (.tmp 21) (.tmp 22) ?ho Try.underlying64 Try.underlying3 Try.underlying3 ?kk ?hm ?hx HM20.out (Try.zeroValue3 _) ?_; (case ho => rfl); (case hg => rfl); (case hm => first | rfl | (go_simp; done) | (go_simp; rfl)); (case hx => first | rfl | (go_simp; done) | (go_simp; rfl))))
                        go_ret
                        exact ⟨by first | rfl | (simp [errW_none, errW_some] <;> rfl) | (simp [*, errW_none, errW_some] <;> rfl), by repeat (first | (with_reducible first | exact HB.out | apply below_alloc | apply pw_below_drewN | apply below_drew1) | exact HB.out)⟩
                      · replace c12 := Bool.eq_false_iff.mpr c12
                        subst c12
                        have H1 : (if a0 = 114 then (some 13) else (if a0 = 101 then (some 27) else (if a0 = 32 then (impl_shortEscape.j3 kj9 a0 a0 (a0 == 32)) else (if a0 = 34 then (impl_shortEscape.j3 kj9 a0 a0 (a0 == 34)) else (if a0 = 47 then (impl_shortEscape.j3 kj9 a0 a0 (a0 == 47)) else (impl_shortEscape.j3 kj9 a0 a0 (a0 == 92))))))) = some r := by rw [if_neg (show ¬ (false = true) by decide)] at H; exact H
                        clear H
                        have H := H1
                        clear H1
                        by_cases c13 : a0 = 114
                        · rw [if_pos c13] at H
                          have c13b0 : (a0 == 114) = true := beq_iff_eq.mpr c13
                          have c13b1 : (a0 != 114) = false := bne_eq_false_iff_eq.mpr c13
                          clear c13
                          obtain rfl := Option.some.inj H
                          go_wp2_with (first | ((with_reducible refine gate_dst (N := 20) rfl ?_); refine Go.Proofs.Ytacmlggiklkbiaa.Mine.map_make ?hg (t := 64) ?ho (below_size (by repeat (first | (with_reducible first | exact HB.out | apply below_alloc | apply pw_below_drewN | apply below_drew1) | exact HB.out))) (by repeat (first | (with_reducible first | exact HB.out | apply below_alloc | apply pw_below_drewN | apply below_drew1) | exact HB.out)) ?_; (case hg => rfl); (case ho => rfl); intro w_1 gM20 hm_ hg_ hb_; have n0_ := Aside0.mk hm_; have n1_ := Aside0.mk hg_; have n2_ := Aside0.mk hb_; clear HB; have HM20 := n0_; have GgM20 := n1_; have HB := n2_; clear n0_ n1_ n2_; clear hm_ hg_ hb_) | (refine Go.Proofs.Ytacmlggiklkbiaa.Mine.map_insert (g := gM20) (l := []) ?hg ?hd (t := 64) (kt := 3) (et := 3) (.tmp 20) 118 11 ?ho Try.underlying64 Try.underlying3 ?hm HM20.out GgM20.out (by decide) (by repeat (first | (with_reducible first | exact HB.out | apply below_alloc | apply pw_below_drewN | apply below_drew1) | exact HB.out)) ?_; (case ho => rfl); (case hg => rfl); (case hd => rfl); (case hm => first | rfl | (go_simp; done) | (go_simp; rfl)); intro w_1 hm_ hb_; have n0_ := Aside0.mk hm_; have n1_ := Aside0.mk hb_; clear HM20; clear HB; have HM20 := n0_; have HB := n1_; clear n0_ n1_; clear hm_ hb_) | (refine Go.Proofs.Ytacmlggiklkbiaa.Mine.map_insert (g := gM20) (l := [(118, 11)]) ?hg ?hd (t := 64) (kt := 3) (et := 3) (.tmp 20) 102 12 ?ho Try.underlying64 Try.underlying3 ?hm HM20.out GgM20.out (by decide) (by repeat (first | (with_reducible first | exact HB.out | apply below_alloc | apply pw_below_drewN | apply below_drew1) | exact HB.out)) ?_; (case ho => rfl); (case hg => rfl); (case hd => rfl); (case hm => first | rfl | (go_simp; done) | (go_simp; rfl)); intro w_1 hm_ hb_; have n0_ := Aside0.mk hm_; have n1_ := Aside0.mk hb_; clear HM20; clear HB; have HM20 := n0_; have HB := n1_; clear n0_ n1_; clear hm_ hb_) | ((with_reducible refine gate_dst (N := 23) rfl ?_); refine Go.Proofs.Ytacmlggiklkbiaa.Mine.map_look (w0 := w) (base := w.heap.size) (g := gM20) (l := [(118, 11), (102, 12)]) ?hg (t := 64) (kt := 3) (et := 3) (.tmp 21) (.tmp 22) ?ho Try.underlying64 Try.underlying3 Try.underlying3 ?kk ?hm ?hx HM20.out (Try.zeroValue3 _) ?_; (case ho => rfl); (case hg => rfl); (case hm => first | rfl | (go_simp; done) | (go_simp; rfl)); (case hx => first | rfl | (go_simp; done) | (go_simp; rfl))))
                          go_ret
                          exact ⟨by first | rfl | (simp [errW_none, errW_some] <;> rfl) | (simp [*, errW_none, errW_some] <;> rfl), by repeat (first | (with_reducible first | exact HB.out | apply below_alloc | apply pw_below_drewN | apply below_drew1) | exact HB.out)⟩
                        · rw [if_neg c13] at H
                          have c13b0 : (a0 == 114) = false := beq_eq_false_iff_ne.mpr c13
                          have c13b1 : (a0 != 114) = true := bne_iff_ne.mpr c13
                          by_cases c14 : a0 = 101
                          · rw [if_pos c14] at H
                            have c14b0 : (a0 == 101) = true := beq_iff_eq.mpr c14
                            have c14b1 : (a0 != 101) = false := bne_eq_false_iff_eq.mpr c14
                            clear c14
                            obtain rfl := Option.some.inj H
                            go_wp2_with (first | ((with_reducible refine gate_dst (N := 20) rfl ?_); refine Go.Proofs.Ytacmlggiklkbiaa.Mine.map_make ?hg (t := 64) ?ho (below_size (by repeat (first | (with_reducible first | exact HB.out | apply below_alloc | apply pw_below_drewN | apply below_drew1) | exact HB.out))) (by repeat (first | (with_reducible first | exact HB.out | apply below_alloc | apply pw_below_drewN | apply below_drew1) | exact HB.out)) ?_; (case hg => rfl); (case ho => rfl); intro w_1 gM20 hm_ hg_ hb_; have n0_ := Aside0.mk hm_; have n1_ := Aside0.mk hg_; have n2_ := Aside0.mk hb_; clear HB; have HM20 := n0_; have GgM20 := n1_; have HB := n2_; clear n0_ n1_ n2_; clear hm_ hg_ hb_) | (refine Go.Proofs.Ytacmlggiklkbiaa.Mine.map_insert (g := gM20) (l := []) ?hg ?hd (t := 64) (kt := 3) (et := 3) (.tmp 20) 118 11 ?ho Try.underlying64 Try.underlying3 ?hm HM20.out GgM20.out (by decide) (by repeat (first | (with_reducible first | exact HB.out | apply below_alloc | apply pw_below_drewN | apply below_drew1) | exact HB.out)) ?_; (case ho => rfl); (case hg => rfl); (case hd => rfl); (case hm => first | rfl | (go_simp; done) | (go_simp; rfl)); intro w_1 hm_ hb_; have n0_ := Aside0.mk hm_; have n1_ := Aside0.mk hb_; clear HM20; clear HB; have HM20 := n0_; have HB := n1_; clear n0_ n1_; clear hm_ hb_) | (refine Go.Proofs.Ytacmlggiklkbiaa.Mine.map_insert (g := gM20) (l := [(118, 11)]) ?hg ?hd (t := 64) (kt := 3) (et := 3) (.tmp 20) 102 12 ?ho Try.underlying64 Try.underlying3 ?hm HM20.out GgM20.out (by decide) (by repeat (first | (with_reducible first | exact HB.out | apply below_alloc | apply pw_below_drewN | apply below_drew1) | exact HB.out)) ?_; (case ho => rfl); (case hg => rfl); (case hd => rfl); (case hm => first | rfl | (go_simp; done) | (go_simp; rfl)); intro w_1 hm_ hb_; have n0_ := Aside0.mk hm_; have n1_ := Aside0.mk hb_; clear HM20; clear HB; have HM20 := n0_; have HB := n1_; clear n0_ n1_; clear hm_ hb_) | ((with_reducible refine gate_dst (N := 23) rfl ?_); refine Go.Proofs.Ytacmlggiklkbiaa.Mine.map_look (w0 := w) (base := w.heap.size) (g := gM20) (l := [(118, 11), (102, 12)]) ?hg (t := 64) (kt := 3) (et := 3) (.tmp 21) (.tmp 22) ?ho Try.underlying64 Try.underlying3 Try.underlying3 ?kk ?hm ?hx HM20.out (Try.zeroValue3 _) ?_; (case ho => rfl); (case hg => rfl); (case hm => first | rfl | (go_simp; done) | (go_simp; rfl)); (case hx => first | rfl | (go_simp; done) | (go_simp; rfl))))
                            go_ret
                            exact ⟨by first | rfl | (simp [errW_none, errW_some] <;> rfl) | (simp [*, errW_none, errW_some] <;> rfl), by repeat (first | (with_reducible first | exact HB.out | apply below_alloc | apply pw_below_drewN | apply below_drew1) | exact HB.out)⟩
                          · rw [if_neg c14] at H
                            have c14b0 : (a0 == 101) = false := beq_eq_false_iff_ne.mpr c14
                            have c14b1 : (a0 != 101) = true := bne_iff_ne.mpr c14
                            have HC15 := Aside0.mk H
                            clear H
                            go_upto_if 28 with (fail)
                            go_cut [28] (fun v28 wc => ∃ (kq : Nat) (x28_14 : Bool), v28 = .bool x28_14 ∧ Aside0 (impl_shortEscape.j3 kq a0 a0 x28_14 = some r) ∧ Aside0 (kq ≤ kj9) ∧ Aside0 (Below w.heap.size w wc))
                            case first =>
                              have H := HC15.out
                              clear HC15
                              by_cases c16 : a0 = 32
                              · rw [if_pos c16] at H
                                have c16b0 : (a0 == 32) = true := beq_iff_eq.mpr c16
                                have c16b1 : (a0 != 32) = false := bne_eq_false_iff_eq.mpr c16
                                clear c16
                                (first | rw [c16b0] | (simp only [i64_w, i32_w]; rw [c16b0]) | skip)
                                have H' := Aside0.mk H
                                clear H
                                go_wp2_with (first | ((with_reducible refine gate_dst (N := 20) rfl ?_); refine Go.Proofs.Ytacmlggiklkbiaa.Mine.map_make ?hg (t := 64) ?ho (below_size (by repeat (first | (with_reducible first | exact HB.out | apply below_alloc | apply pw_below_drewN | apply below_drew1) | exact HB.out))) (by repeat (first | (with_reducible first | exact HB.out | apply below_alloc | apply pw_below_drewN | apply below_drew1) | exact HB.out)) ?_; (case hg => rfl); (case ho => rfl); intro w_1 gM20 hm_ hg_ hb_; have n0_ := Aside0.mk hm_; have n1_ := Aside0.mk hg_; have n2_ := Aside0.mk hb_; clear HB; have HM20 := n0_; have GgM20 := n1_; have HB := n2_; clear n0_ n1_ n2_; clear hm_ hg_ hb_) | (refine Go.Proofs.Ytacmlggiklkbiaa.Mine.map_insert (g := gM20) (l := []) ?hg ?hd (t := 64) (kt := 3) (et := 3) (.tmp 20) 118 11 ?ho Try.underlying64 Try.underlying3 ?hm HM20.out GgM20.out (by decide) (by repeat (first | (with_reducible first | exact HB.out | apply below_alloc | apply pw_below_drewN | apply below_drew1) | exact HB.out)) ?_; (case ho => rfl); (case hg => rfl); (case hd => rfl); (case hm => first | rfl | (go_simp; done) | (go_simp; rfl)); intro w_1 hm_ hb_; have n0_ := Aside0.mk hm_; have n1_ := Aside0.mk hb_; clear HM20; clear HB; have HM20 := n0_; have HB := n1_; clear n0_ n1_; clear hm_ hb_) | (refine Go.Proofs.Ytacmlggiklkbiaa.Mine.map_insert (g := gM20) (l := [(118, 11)]) ?hg ?hd (t := 64) (kt := 3) (et := 3) (.tmp 20) 102 12 ?ho Try.underlying64 Try.underlying3 ?hm HM20.out GgM20.out (by decide) (by repeat (first | (with_reducible first | exact HB.out | apply below_alloc | apply pw_below_drewN | apply below_drew1) | exact HB.out)) ?_; (case ho => rfl); (case hg => rfl); (case hd => rfl); (case hm => first | rfl | (go_simp; done) | (go_simp; rfl)); intro w_1 hm_ hb_; have n0_ := Aside0.mk hm_; have n1_ := Aside0.mk hb_; clear HM20; clear HB; have HM20 := n0_; have HB := n1_; clear n0_ n1_; clear hm_ hb_) | ((with_reducible refine gate_dst (N := 23) rfl ?_); refine Go.Proofs.Ytacmlggiklkbiaa.Mine.map_look (w0 := w) (base := w.heap.size) (g := gM20) (l := [(118, 11), (102, 12)]) ?hg (t := 64) (kt := 3) (et := 3) (.tmp 21) (.tmp 22) ?ho Try.underlying64 Try.underlying3 Try.underlying3 ?kk ?hm ?hx HM20.out (Try.zeroValue3 _) ?_; (case ho => rfl); (case hg => rfl); (case hm => first | rfl | (go_simp; done) | (go_simp; rfl)); (case hx => first | rfl | (go_simp; done) | (go_simp; rfl))))
                                go_meet
                                case rel => exact ⟨_, ((a0 == 32)), (by first | rfl | (simp; done) | (simp [*]; done)), H', ⟨by have := HJ2.out; have := HJ5.out; have := HJ9.out; first | omega | exact Nat.le_refl _⟩, ⟨by repeat (first | (with_reducible first | exact HB.out | apply below_alloc | apply pw_below_drewN | apply below_drew1) | exact HB.out)⟩⟩
                              · rw [if_neg c16] at H
                                have c16b0 : (a0 == 32) = false := beq_eq_false_iff_ne.mpr c16
                                have c16b1 : (a0 != 32) = true := bne_iff_ne.mpr c16
                                (first | rw [c16b0] | (simp only [i64_w, i32_w]; rw [c16b0]) | skip)
                                by_cases c17 : a0 = 34
                                · rw [if_pos c17] at H
                                  have c17b0 : (a0 == 34) = true := beq_iff_eq.mpr c17
                                  have c17b1 : (a0 != 34) = false := bne_eq_false_iff_eq.mpr c17
                                  clear c17
                                  have H' := Aside0.mk H
                                  clear H
                                  go_wp2_with (first | ((with_reducible refine gate_dst (N := 20) rfl ?_); refine Go.Proofs.Ytacmlggiklkbiaa.Mine.map_make ?hg (t := 64) ?ho (below_size (by repeat (first | (with_reducible first | exact HB.out | apply below_alloc | apply pw_below_drewN | apply below_drew1) | exact HB.out))) (by repeat (first | (with_reducible first | exact HB.out | apply below_alloc | apply pw_below_drewN | apply below_drew1) | exact HB.out)) ?_; (case hg => rfl); (case ho => rfl); intro w_1 gM20 hm_ hg_ hb_; have n0_ := Aside0.mk hm_; have n1_ := Aside0.mk hg_; have n2_ := Aside0.mk hb_; clear HB; have HM20 := n0_; have GgM20 := n1_; have HB := n2_; clear n0_ n1_ n2_; clear hm_ hg_ hb_) | (refine Go.Proofs.Ytacmlggiklkbiaa.Mine.map_insert (g := gM20) (l := []) ?hg ?hd (t := 64) (kt := 3) (et := 3) (.tmp 20) 118 11 ?ho Try.underlying64 Try.underlying3 ?hm HM20.out GgM20.out (by decide) (by repeat (first | (with_reducible first | exact HB.out | apply below_alloc | apply pw_below_drewN | apply below_drew1) | exact HB.out)) ?_; (case ho => rfl); (case hg => rfl); (case hd => rfl); (case hm => first | rfl | (go_simp; done) | (go_simp; rfl)); intro w_1 hm_ hb_; have n0_ := Aside0.mk hm_; have n1_ := Aside0.mk hb_; clear HM20; clear HB; have HM20 := n0_; have HB := n1_; clear n0_ n1_; clear hm_ hb_) | (refine Go.Proofs.Ytacmlggiklkbiaa.Mine.map_insert (g := gM20) (l := [(118, 11)]) ?hg ?hd (t := 64) (kt := 3) (et := 3) (.tmp 20) 102 12 ?ho Try.underlying64 Try.underlying3 ?hm HM20.out GgM20.out (by decide) (by repeat (first | (with_reducible first | exact HB.out | apply below_alloc | apply pw_below_drewN | apply below_drew1) | exact HB.out)) ?_; (case ho => rfl); (case hg => rfl); (case hd => rfl); (case hm => first | rfl | (go_simp; done) | (go_simp; rfl)); intro w_1 hm_ hb_; have n0_ := Aside0.mk hm_; have n1_ := Aside0.mk hb_; clear HM20; clear HB; have HM20 := n0_; have HB := n1_; clear n0_ n1_; clear hm_ hb_) | ((with_reducible refine gate_dst (N := 23) rfl ?_); refine Go.Proofs.Ytacmlggiklkbiaa.Mine.map_look (w0 := w) (base := w.heap.size) (g := gM20) (l := [(118, 11), (102, 12)]) ?hg (t := 64) (kt := 3) (et := 3) (.tmp 21) (.tmp 22) ?ho Try.underlying64 Try.underlying3 Try.underlying3 ?kk ?hm ?hx HM20.out (Try.zeroValue3 _) ?_; (case ho => rfl); (case hg => rfl); (case hm => first | rfl | (go_simp; done) | (go_simp; rfl)); (case hx => first | rfl | (go_simp; done) | (go_simp; rfl))))
                                  go_meet
                                  case rel => exact ⟨_, ((a0 == 34)), (by first | rfl | (simp; done) | (simp [*]; done)), H', ⟨by have := HJ2.out; have := HJ5.out; have := HJ9.out; first | omega | exact Nat.le_refl _⟩, ⟨by repeat (first | (with_reducible first | exact HB.out | apply below_alloc | apply pw_below_drewN | apply below_drew1) | exact HB.out)⟩⟩
                                · rw [if_neg c17] at H
                                  have c17b0 : (a0 == 34) = false := beq_eq_false_iff_ne.mpr c17
                                  have c17b1 : (a0 != 34) = true := bne_iff_ne.mpr c17
                                  by_cases c18 : a0 = 47
                                  · rw [if_pos c18] at H
                                    have c18b0 : (a0 == 47) = true := beq_iff_eq.mpr c18
                                    have c18b1 : (a0 != 47) = false := bne_eq_false_iff_eq.mpr c18
                                    clear c18
                                    have H' := Aside0.mk H
                                    clear H
                                    go_wp2_with (first | ((with_reducible refine gate_dst (N := 20) rfl ?_); refine Go.Proofs.Ytacmlggiklkbiaa.Mine.map_make ?hg (t := 64) ?ho (below_size (by repeat (first | (with_reducible first | exact HB.out | apply below_alloc | apply pw_below_drewN | apply below_drew1) | exact HB.out))) (by repeat (first | (with_reducible first | exact HB.out | apply below_alloc | apply pw_below_drewN | apply below_drew1) | exact HB.out)) ?_; (case hg => rfl); (case ho => rfl); intro w_1 gM20 hm_ hg_ hb_; have n0_ := Aside0.mk hm_; have n1_ := Aside0.mk hg_; have n2_ := Aside0.mk hb_; clear HB; have HM20 := n0_; have GgM20 := n1_; have HB := n2_; clear n0_ n1_ n2_; clear hm_ hg_ hb_) | (refine Go.Proofs.Ytacmlggiklkbiaa.Mine.map_insert (g := gM20) (l := []) ?hg ?hd (t := 64) (kt := 3) (et := 3) (.tmp 20) 118 11 ?ho Try.underlying64 Try.underlying3 ?hm HM20.out GgM20.out (by decide) (by repeat (first | (with_reducible first | exact HB.out | apply below_alloc | apply pw_below_drewN | apply below_drew1) | exact HB.out)) ?_; (case ho => rfl); (case hg => rfl); (case hd => rfl); (case hm => first | rfl | (go_simp; done) | (go_simp; rfl)); intro w_1 hm_ hb_; have n0_ := Aside0.mk hm_; have n1_ := Aside0.mk hb_; clear HM20; clear HB; have HM20 := n0_; have HB := n1_; clear n0_ n1_; clear hm_ hb_) | (refine Go.Proofs.Ytacmlggiklkbiaa.Mine.map_insert (g := gM20) (l := [(118, 11)]) ?hg ?hd (t := 64) (kt := 3) (et := 3) (.tmp 20) 102 12 ?ho Try.underlying64 Try.underlying3 ?hm HM20.out GgM20.out (by decide) (by repeat (first | (with_reducible first | exact HB.out | apply below_alloc | apply pw_below_drewN | apply below_drew1) | exact HB.out)) ?_; (case ho => rfl); (case hg => rfl); (case hd => rfl); (case hm => first | rfl | (go_simp; done) | (go_simp; rfl)); intro w_1 hm_ hb_; have n0_ := Aside0.mk hm_; have n1_ := Aside0.mk hb_; clear HM20; clear HB; have HM20 := n0_; have HB := n1_; clear n0_ n1_; clear hm_ hb_) | ((with_reducible refine gate_dst (N := 23) rfl ?_); refine Go.Proofs.Ytacmlggiklkbiaa.Mine.map_look (w0 := w) (base := w.heap.size) (g := gM20) (l := [(118, 11), (102, 12)]) ?hg (t := 64) (kt := 3) (et := 3) (.tmp 21) (.tmp 22) ?ho Try.underlying64 Try.underlying3 Try.underlying3 ?kk ?hm ?hx HM20.out (Try.zeroValue3 _) ?_; (case ho => rfl); (case hg => rfl); (case hm => first | rfl | (go_simp; done) | (go_simp; rfl)); (case hx => first | rfl | (go_simp; done) | (go_simp; rfl))))
                                    go_meet
                                    case rel => exact ⟨_, ((a0 == 47)), (by first | rfl | (simp; done) | (simp [*]; done)), H', ⟨by have := HJ2.out; have := HJ5.out; have := HJ9.out; first | omega | exact Nat.le_refl _⟩, ⟨by repeat (first | (with_reducible first | exact HB.out | apply below_alloc | apply pw_below_drewN | apply below_drew1) | exact HB.out)⟩⟩
                                  · rw [if_neg c18] at H
                                    have c18b0 : (a0 == 47) = false := beq_eq_false_iff_ne.mpr c18
                                    have c18b1 : (a0 != 47) = true := bne_iff_ne.mpr c18
                                    have H' := Aside0.mk H
                                    clear H
                                    go_wp2_with (first | ((with_reducible refine gate_dst (N := 20) rfl ?_); refine Go.Proofs.Ytacmlggiklkbiaa.Mine.map_make ?hg (t := 64) ?ho (below_size (by repeat (first | (with_reducible first | exact HB.out | apply below_alloc | apply pw_below_drewN | apply below_drew1) | exact HB.out))) (by repeat (first | (with_reducible first | exact HB.out | apply below_alloc | apply pw_below_drewN | apply below_drew1) | exact HB.out)) ?_; (case hg => rfl); (case ho => rfl); intro w_1 gM20 hm_ hg_ hb_; have n0_ := Aside0.mk hm_; have n1_ := Aside0.mk hg_; have n2_ := Aside0.mk hb_; clear HB; have HM20 := n0_; have GgM20 := n1_; have HB := n2_; clear n0_ n1_ n2_; clear hm_ hg_ hb_) | (refine Go.Proofs.Ytacmlggiklkbiaa.Mine.map_insert (g := gM20) (l := []) ?hg ?hd (t := 64) (kt := 3) (et := 3) (.tmp 20) 118 11 ?ho Try.underlying64 Try.underlying3 ?hm HM20.out GgM20.out (by decide) (by repeat (first | (with_reducible first | exact HB.out | apply below_alloc | apply pw_below_drewN | apply below_drew1) | exact HB.out)) ?_; (case ho => rfl); (case hg => rfl); (case hd => rfl); (case hm => first | rfl | (go_simp; done) | (go_simp; rfl)); intro w_1 hm_ hb_; have n0_ := Aside0.mk hm_; have n1_ := Aside0.mk hb_; clear HM20; clear HB; have HM20 := n0_; have HB := n1_; clear n0_ n1_; clear hm_ hb_) | (refine Go.Proofs.Ytacmlggiklkbiaa.Mine.map_insert (g := gM20) (l := [(118, 11)]) ?hg ?hd (t := 64) (kt := 3) (et := 3) (.tmp 20) 102 12 ?ho Try.underlying64 Try.underlying3 ?hm HM20.out GgM20.out (by decide) (by repeat (first | (with_reducible first | exact HB.out | apply below_alloc | apply pw_below_drewN | apply below_drew1) | exact HB.out)) ?_; (case ho => rfl); (case hg => rfl); (case hd => rfl); (case hm => first | rfl | (go_simp; done) | (go_simp; rfl)); intro w_1 hm_ hb_; have n0_ := Aside0.mk hm_; have n1_ := Aside0.mk hb_; clear HM20; clear HB; have HM20 := n0_; have HB := n1_; clear n0_ n1_; clear hm_ hb_) | ((with_reducible refine gate_dst (N := 23) rfl ?_); refine Go.Proofs.Ytacmlggiklkbiaa.Mine.map_look (w0 := w) (base := w.heap.size) (g := gM20) (l := [(118, 11), (102, 12)]) ?hg (t := 64) (kt := 3) (et := 3) (.tmp 21) (.tmp 22) ?ho Try.underlying64 Try.underlying3 Try.underlying3 ?kk ?hm ?hx HM20.out (Try.zeroValue3 _) ?_; (case ho => rfl); (case hg => rfl); (case hm => first | rfl | (go_simp; done) | (go_simp; rfl)); (case hx => first | rfl | (go_simp; done) | (go_simp; rfl))))
                                    go_meet
                                    case rel => exact ⟨_, ((a0 == 92)), (by first | rfl | (simp; done) | (simp [*]; done)), H', ⟨by have := HJ2.out; have := HJ5.out; have := HJ9.out; first | omega | exact Nat.le_refl _⟩, ⟨by repeat (first | (with_reducible first | exact HB.out | apply below_alloc | apply pw_below_drewN | apply below_drew1) | exact HB.out)⟩⟩
                            case rest =>
                              clear HC15
                              try clear c1
                              try clear c2
                              try clear c2b0
                              try clear c2b1
                              try clear p2
                              try clear c4
                              try clear c4b0
                              try clear c4b1
                              try clear c5
                              try clear p6
                              try clear c7
                              try clear c7b0
                              try clear c7b1
                              try clear c8
                              try clear c9
                              try clear c9b0
                              try clear c9b1
                              try clear c11
                              try clear c11b0
                              try clear c11b1
                              try clear c12
                              try clear c13
                              try clear c13b0
                              try clear c13b1
                              try clear c14
                              try clear c14b0
                              try clear c14b1
                              try clear c16
                              try clear c16b0
                              try clear c16b1
                              try clear c17
                              try clear c17b0
                              try clear c17b1
                              try clear c18
                              try clear c18b0
                              try clear c18b1
                              try clear p2
                              try clear p6
                              obtain ⟨kq, x28_14, rfl, HA, HJ14, HB⟩ := hcut
                              cases kq with
                              | zero => exact absurd HA.out (by simp [impl_shortEscape.j3])
                              | succ kj14 =>
                                have H := HA.out
                                clear HA
                                simp only [impl_shortEscape.j3] at H
                                by_cases c19 : x28_14 = true
                                · subst c19
                                  have H1 : (some a0) = some r := by rw [if_pos rfl] at H; exact H
                                  clear H
                                  have H := H1
                                  clear H1
                                  obtain rfl := Option.some.inj H
                                  go_wp2_with (first | ((with_reducible refine gate_dst (N := 20) rfl ?_); refine Go.Proofs.Ytacmlggiklkbiaa.Mine.map_make ?hg (t := 64) ?ho (below_size (by repeat (first | (with_reducible first | exact HB.out | apply below_alloc | apply pw_below_drewN | apply below_drew1) | exact HB.out))) (by repeat (first | (with_reducible first | exact HB.out | apply below_alloc | apply pw_below_drewN | apply below_drew1) | exact HB.out)) ?_; (case hg => rfl); (case ho => rfl); intro w_1 gM20 hm_ hg_ hb_; have n0_ := Aside0.mk hm_; have n1_ := Aside0.mk hg_; have n2_ := Aside0.mk hb_; clear HB; have HM20 := n0_; have GgM20 := n1_; have HB := n2_; clear n0_ n1_ n2_; clear hm_ hg_ hb_) | (refine Go.Proofs.Ytacmlggiklkbiaa.Mine.map_insert (g := gM20) (l := []) ?hg ?hd (t := 64) (kt := 3) (et := 3) (.tmp 20) 118 11 ?ho Try.underlying64 Try.underlying3 ?hm HM20.out GgM20.out (by decide) (by repeat (first | (with_reducible first | exact HB.out | apply below_alloc | apply pw_below_drewN | apply below_drew1) | exact HB.out)) ?_; (case ho => rfl); (case hg => rfl); (case hd => rfl); (case hm => first | rfl | (go_simp; done) | (go_simp; rfl)); intro w_1 hm_ hb_; have n0_ := Aside0.mk hm_; have n1_ := Aside0.mk hb_; clear HM20; clear HB; have HM20 := n0_; have HB := n1_; clear n0_ n1_; clear hm_ hb_) | (refine Go.Proofs.Ytacmlggiklkbiaa.Mine.map_insert (g := gM20) (l := [(118, 11)]) ?hg ?hd (t := 64) (kt := 3) (et := 3) (.tmp 20) 102 12 ?ho Try.underlying64 Try.underlying3 ?hm HM20.out GgM20.out (by decide) (by repeat (first | (with_reducible first | exact HB.out | apply below_alloc | apply pw_below_drewN | apply below_drew1) | exact HB.out)) ?_; (case ho => rfl); (case hg => rfl); (case hd => rfl); (case hm => first | rfl | (go_simp; done) | (go_simp; rfl)); intro w_1 hm_ hb_; have n0_ := Aside0.mk hm_; have n1_ := Aside0.mk hb_; clear HM20; clear HB; have HM20 := n0_; have HB := n1_; clear n0_ n1_; clear hm_ hb_) | ((with_reducible refine gate_dst (N := 23) rfl ?_); refine Go.Proofs.Ytacmlggiklkbiaa.Mine.map_look (w0 := w) (base := w.heap.size) (g := gM20) (l := [(118, 11), (102, 12)]) ?hg (t := 64) (kt := 3) (et := 3) (.tmp 21) (.tmp 22) ?ho Try.underlying64 Try.underlying3 Try.underlying3 ?kk ?hm ?hx HM20.out (Try.zeroValue3 _) ?_; (case ho => rfl); (case hg => rfl); (case hm => first | rfl | (go_simp; done) | (go_simp; rfl)); (case hx => first | rfl | (go_simp; done) | (go_simp; rfl))))
                                  go_ret
                                  exact ⟨by first | rfl | (simp [errW_none, errW_some] <;> rfl) | (simp [*, errW_none, errW_some] <;> rfl), by repeat (first | (with_reducible first | exact HB.out | apply below_alloc | apply pw_below_drewN | apply below_drew1) | exact HB.out)⟩
                                · replace c19 := Bool.eq_false_iff.mpr c19
                                  subst c19
                                  have H1 : (if a0 = 78 then (some 133) else (if a0 = 95 then (some 160) else (if a0 = 76 then (some 8232) else (if a0 = 80 then (some 8233) else (some (-1)))))) = some r := by rw [if_neg (show ¬ (false = true) by decide)] at H; exact H
                                  clear H
                                  have H := H1
                                  clear H1
                                  by_cases c20 : a0 = 78
                                  · rw [if_pos c20] at H
                                    have c20b0 : (a0 == 78) = true := beq_iff_eq.mpr c20
                                    have c20b1 : (a0 != 78) = false := bne_eq_false_iff_eq.mpr c20
                                    clear c20
                                    obtain rfl := Option.some.inj H
                                    go_wp2_with (first | ((with_reducible refine gate_dst (N := 20) rfl ?_); refine Go.Proofs.Ytacmlggiklkbiaa.Mine.map_make ?hg (t := 64) ?ho (below_size (by repeat (first | (with_reducible first | exact HB.out | apply below_alloc | apply pw_below_drewN | apply below_drew1) | exact HB.out))) (by repeat (first | (with_reducible first | exact HB.out | apply below_alloc | apply pw_below_drewN | apply below_drew1) | exact HB.out)) ?_; (case hg => rfl); (case ho => rfl); intro w_1 gM20 hm_ hg_ hb_; have n0_ := Aside0.mk hm_; have n1_ := Aside0.mk hg_; have n2_ := Aside0.mk hb_; clear HB; have HM20 := n0_; have GgM20 := n1_; have HB := n2_; clear n0_ n1_ n2_; clear hm_ hg_ hb_) | (refine Go.Proofs.Ytacmlggiklkbiaa.Mine.map_insert (g := gM20) (l := []) ?hg ?hd (t := 64) (kt := 3) (et := 3) (.tmp 20) 118 11 ?ho Try.underlying64 Try.underlying3 ?hm HM20.out GgM20.out (by decide) (by repeat (first | (with_reducible first | exact HB.out | apply below_alloc | apply pw_below_drewN | apply below_drew1) | exact HB.out)) ?_; (case ho => rfl); (case hg => rfl); (case hd => rfl); (case hm => first | rfl | (go_simp; done) | (go_simp; rfl)); intro w_1 hm_ hb_; have n0_ := Aside0.mk hm_; have n1_ := Aside0.mk hb_; clear HM20; clear HB; have HM20 := n0_; have HB := n1_; clear n0_ n1_; clear hm_ hb_) | (refine Go.Proofs.Ytacmlggiklkbiaa.Mine.map_insert (g := gM20) (l := [(118, 11)]) ?hg ?hd (t := 64) (kt := 3) (et := 3) (.tmp 20) 102 12 ?ho Try.underlying64 Try.underlying3 ?hm HM20.out GgM20.out (by decide) (by repeat (first | (with_reducible first | exact HB.out | apply below_alloc | apply pw_below_drewN | apply below_drew1) | exact HB.out)) ?_; (case ho => rfl); (case hg => rfl); (case hd => rfl); (case hm => first | rfl | (go_simp; done) | (go_simp; rfl)); intro w_1 hm_ hb_; have n0_ := Aside0.mk hm_; have n1_ := Aside0.mk hb_; clear HM20; clear HB; have HM20 := n0_; have HB := n1_; clear n0_ n1_; clear hm_ hb_) | ((with_reducible refine gate_dst (N := 23) rfl ?_); refine Go.Proofs.Ytacmlggiklkbiaa.Mine.map_look (w0 := w) (base := w.heap.size) (g := gM20) (l := [(118, 11), (102, 12)]) ?hg (t := 64) (kt := 3) (et := 3) (.tmp 21) (.tmp 22) ?ho Try.underlying64 Try.underlying3 Try.underlying3 ?kk ?hm ?hx HM20.out (Try.zeroValue3 _) ?_; (case ho => rfl); (case hg => rfl); (case hm => first | rfl | (go_simp; done) | (go_simp; rfl)); (case hx => first | rfl | (go_simp; done) | (go_simp; rfl))))
                                    go_ret
                                    exact ⟨by first | rfl | (simp [errW_none, errW_some] <;> rfl) | (simp [*, errW_none, errW_some] <;> rfl), by repeat (first | (with_reducible first | exact HB.out | apply below_alloc | apply pw_below_drewN | apply below_drew1) | exact HB.out)⟩
                                  · rw [if_neg c20] at H
                                    have c20b0 : (a0 == 78) = false := beq_eq_false_iff_ne.mpr c20
                                    have c20b1 : (a0 != 78) = true := bne_iff_ne.mpr c20
                                    by_cases c21 : a0 = 95
                                    · rw [if_pos c21] at H
                                      have c21b0 : (a0 == 95) = true := beq_iff_eq.mpr c21
                                      have c21b1 : (a0 != 95) = false := bne_eq_false_iff_eq.mpr c21
                                      clear c21
                                      obtain rfl := Option.some.inj H
                                      go_wp2_with (first | ((with_reducible refine gate_dst (N := 20) rfl ?_); refine Go.Proofs.Ytacmlggiklkbiaa.Mine.map_make ?hg (t := 64) ?ho (below_size (by repeat (first | (with_reducible first | exact HB.out | apply below_alloc | apply pw_below_drewN | apply below_drew1) | exact HB.out))) (by repeat (first | (with_reducible first | exact HB.out | apply below_alloc | apply pw_below_drewN | apply below_drew1) | exact HB.out)) ?_; (case hg => rfl); (case ho => rfl); intro w_1 gM20 hm_ hg_ hb_; have n0_ := Aside0.mk hm_; have n1_ := Aside0.mk hg_; have n2_ := Aside0.mk hb_; clear HB; have HM20 := n0_; have GgM20 := n1_; have HB := n2_; clear n0_ n1_ n2_; clear hm_ hg_ hb_) | (refine Go.Proofs.Ytacmlggiklkbiaa.Mine.map_insert (g := gM20) (l := []) ?hg ?hd (t := 64) (kt := 3) (et := 3) (.tmp 20) 118 11 ?ho Try.underlying64 Try.underlying3 ?hm HM20.out GgM20.out (by decide) (by repeat (first | (with_reducible first | exact HB.out | apply below_alloc | apply pw_below_drewN | apply below_drew1) | exact HB.out)) ?_; (case ho => rfl); (case hg => rfl); (case hd => rfl); (case hm => first | rfl | (go_simp; done) | (go_simp; rfl)); intro w_1 hm_ hb_; have n0_ := Aside0.mk hm_; have n1_ := Aside0.mk hb_; clear HM20; clear HB; have HM20 := n0_; have HB := n1_; clear n0_ n1_; clear hm_ hb_) | (refine Go.Proofs.Ytacmlggiklkbiaa.Mine.map_insert (g := gM20) (l := [(118, 11)]) ?hg ?hd (t := 64) (kt := 3) (et := 3) (.tmp 20) 102 12 ?ho Try.underlying64 Try.underlying3 ?hm HM20.out GgM20.out (by decide) (by repeat (first | (with_reducible first | exact HB.out | apply below_alloc | apply pw_below_drewN | apply below_drew1) | exact HB.out)) ?_; (case ho => rfl); (case hg => rfl); (case hd => rfl); (case hm => first | rfl | (go_simp; done) | (go_simp; rfl)); intro w_1 hm_ hb_; have n0_ := Aside0.mk hm_; have n1_ := Aside0.mk hb_; clear HM20; clear HB; have HM20 := n0_; have HB := n1_; clear n0_ n1_; clear hm_ hb_) | ((with_reducible refine gate_dst (N := 23) rfl ?_); refine Go.Proofs.Ytacmlggiklkbiaa.Mine.map_look (w0 := w) (base := w.heap.size) (g := gM20) (l := [(118, 11), (102, 12)]) ?hg (t := 64) (kt := 3) (et := 3) (.tmp 21) (.tmp 22) ?ho Try.underlying64 Try.underlying3 Try.underlying3 ?kk ?hm ?hx HM20.out (Try.zeroValue3 _) ?_; (case ho => rfl); (case hg => rfl); (case hm => first | rfl | (go_simp; done) | (go_simp; rfl)); (case hx => first | rfl | (go_simp; done) | (go_simp; rfl))))
                                      go_ret
                                      exact ⟨by first | rfl | (simp [errW_none, errW_some] <;> rfl) | (simp [*, errW_none, errW_some] <;> rfl), by repeat (first | (with_reducible first | exact HB.out | apply below_alloc | apply pw_below_drewN | apply below_drew1) | exact HB.out)⟩
                                    · rw [if_neg c21] at H
                                      have c21b0 : (a0 == 95) = false := beq_eq_false_iff_ne.mpr c21
                                      have c21b1 : (a0 != 95) = true := bne_iff_ne.mpr c21
                                      by_cases c22 : a0 = 76
                                      · rw [if_pos c22] at H
                                        have c22b0 : (a0 == 76) = true := beq_iff_eq.mpr c22
                                        have c22b1 : (a0 != 76) = false := bne_eq_false_iff_eq.mpr c22
                                        clear c22
                                        obtain rfl := Option.some.inj H
                                        go_wp2_with (first | ((with_reducible refine gate_dst (N := 20) rfl ?_); refine Go.Proofs.Ytacmlggiklkbiaa.Mine.map_make ?hg (t := 64) ?ho (below_size (by repeat (first | (with_reducible first | exact HB.out | apply below_alloc | apply pw_below_drewN | apply below_drew1) | exact HB.out))) (by repeat (first | (with_reducible first | exact HB.out | apply below_alloc | apply pw_below_drewN | apply below_drew1) | exact HB.out)) ?_; (case hg => rfl); (case ho => rfl); intro w_1 gM20 hm_ hg_ hb_; have n0_ := Aside0.mk hm_; have n1_ := Aside0.mk hg_; have n2_ := Aside0.mk hb_; clear HB; have HM20 := n0_; have GgM20 := n1_; have HB := n2_; clear n0_ n1_ n2_; clear hm_ hg_ hb_) | (refine Go.Proofs.Ytacmlggiklkbiaa.Mine.map_insert (g := gM20) (l := []) ?hg ?hd (t := 64) (kt := 3) (et := 3) (.tmp 20) 118 11 ?ho Try.underlying64 Try.underlying3 ?hm HM20.out GgM20.out (by decide) (by repeat (first | (with_reducible first | exact HB.out | apply below_alloc | apply pw_below_drewN | apply below_drew1) | exact HB.out)) ?_; (case ho => rfl); (case hg => rfl); (case hd => rfl); (case hm => first | rfl | (go_simp; done) | (go_simp; rfl)); intro w_1 hm_ hb_; have n0_ := Aside0.mk hm_; have n1_ := Aside0.mk hb_; clear HM20; clear HB; have HM20 := n0_; have HB := n1_; clear n0_ n1_; clear hm_ hb_) | (refine Go.Proofs.Ytacmlggiklkbiaa.Mine.map_insert (g := gM20) (l := [(118, 11)]) ?hg ?hd (t := 64) (kt := 3) (et := 3) (.tmp 20) 102 12 ?ho Try.underlying64 Try.underlying3 ?hm HM20.out GgM20.out (by decide) (by repeat (first | (with_reducible first | exact HB.out | apply below_alloc | apply pw_below_drewN | apply below_drew1) | exact HB.out)) ?_; (case ho => rfl); (case hg => rfl); (case hd => rfl); (case hm => first | rfl | (go_simp; done) | (go_simp; rfl)); intro w_1 hm_ hb_; have n0_ := Aside0.mk hm_; have n1_ := Aside0.mk hb_; clear HM20; clear HB; have HM20 := n0_; have HB := n1_; clear n0_ n1_; clear hm_ hb_) | ((with_reducible refine gate_dst (N := 23) rfl ?_); refine Go.Proofs.Ytacmlggiklkbiaa.Mine.map_look (w0 := w) (base := w.heap.size) (g := gM20) (l := [(118, 11), (102, 12)]) ?hg (t := 64) (kt := 3) (et := 3) (.tmp 21) (.tmp 22) ?ho Try.underlying64 Try.underlying3 Try.underlying3 ?kk ?hm ?hx HM20.out (Try.zeroValue3 _) ?_; (case ho => rfl); (case hg => rfl); (case hm => first | rfl | (go_simp; done) | (go_simp; rfl)); (case hx => first | rfl | (go_simp; done) | (go_simp; rfl))))
                                        go_ret
                                        exact ⟨by first | rfl | (simp [errW_none, errW_some] <;> rfl) | (simp [*, errW_none, errW_some] <;> rfl), by repeat (first | (with_reducible first | exact HB.out | apply below_alloc | apply pw_below_drewN | apply below_drew1) | exact HB.out)⟩
                                      · rw [if_neg c22] at H
                                        have c22b0 : (a0 == 76) = false := beq_eq_false_iff_ne.mpr c22
                                        have c22b1 : (a0 != 76) = true := bne_iff_ne.mpr c22
                                        by_cases c23 : a0 = 80
                                        · rw [if_pos c23] at H
                                          have c23b0 : (a0 == 80) = true := beq_iff_eq.mpr c23
                                          have c23b1 : (a0 != 80) = false := bne_eq_false_iff_eq.mpr c23
                                          clear c23
                                          obtain rfl := Option.some.inj H
                                          go_wp2_with (first | ((with_reducible refine gate_dst (N := 20) rfl ?_); refine Go.Proofs.Ytacmlggiklkbiaa.Mine.map_make ?hg (t := 64) ?ho (below_size (by repeat (first | (with_reducible first | exact HB.out | apply below_alloc | apply pw_below_drewN | apply below_drew1) | exact HB.out))) (by repeat (first | (with_reducible first | exact HB.out | apply below_alloc | apply pw_below_drewN | apply below_drew1) | exact HB.out)) ?_; (case hg => rfl); (case ho => rfl); intro w_1 gM20 hm_ hg_ hb_; have n0_ := Aside0.mk hm_; have n1_ := Aside0.mk hg_; have n2_ := Aside0.mk hb_; clear HB; have HM20 := n0_; have GgM20 := n1_; have HB := n2_; clear n0_ n1_ n2_; clear hm_ hg_ hb_) | (refine Go.Proofs.Ytacmlggiklkbiaa.Mine.map_insert (g := gM20) (l := []) ?hg ?hd (t := 64) (kt := 3) (et := 3) (.tmp 20) 118 11 ?ho Try.underlying64 Try.underlying3 ?hm HM20.out GgM20.out (by decide) (by repeat (first | (with_reducible first | exact HB.out | apply below_alloc | apply pw_below_drewN | apply below_drew1) | exact HB.out)) ?_; (case ho => rfl); (case hg => rfl); (case hd => rfl); (case hm => first | rfl | (go_simp; done) | (go_simp; rfl)); intro w_1 hm_ hb_; have n0_ := Aside0.mk hm_; have n1_ := Aside0.mk hb_; clear HM20; clear HB; have HM20 := n0_; have HB := n1_; clear n0_ n1_; clear hm_ hb_) | (refine Go.Proofs.Ytacmlggiklkbiaa.Mine.map_insert (g := gM20) (l := [(118, 11)]) ?hg ?hd (t := 64) (kt := 3) (et := 3) (.tmp 20) 102 12 ?ho Try.underlying64 Try.underlying3 ?hm HM20.out GgM20.out (by decide) (by repeat (first | (with_reducible first | exact HB.out | apply below_alloc | apply pw_below_drewN | apply below_drew1) | exact HB.out)) ?_; (case ho => rfl); (case hg => rfl); (case hd => rfl); (case hm => first | rfl | (go_simp; done) | (go_simp; rfl)); intro w_1 hm_ hb_; have n0_ := Aside0.mk hm_; have n1_ := Aside0.mk hb_; clear HM20; clear HB; have HM20 := n0_; have HB := n1_; clear n0_ n1_; clear hm_ hb_) | ((with_reducible refine gate_dst (N := 23) rfl ?_); refine Go.Proofs.Ytacmlggiklkbiaa.Mine.map_look (w0 := w) (base := w.heap.size) (g := gM20) (l := [(118, 11), (102, 12)]) ?hg (t := 64) (kt := 3) (et := 3) (.tmp 21) (.tmp 22) ?ho Try.underlying64 Try.underlying3 Try.underlying3 ?kk ?hm ?hx HM20.out (Try.zeroValue3 _) ?_; (case ho => rfl); (case hg => rfl); (case hm => first | rfl | (go_simp; done) | (go_simp; rfl)); (case hx => first | rfl | (go_simp; done) | (go_simp; rfl))))
                                          go_ret
                                          exact ⟨by first | rfl | (simp [errW_none, errW_some] <;> rfl) | (simp [*, errW_none, errW_some] <;> rfl), by repeat (first | (with_reducible first | exact HB.out | apply below_alloc | apply pw_below_drewN | apply below_drew1) | exact HB.out)⟩
                                        · rw [if_neg c23] at H
                                          have c23b0 : (a0 == 80) = false := beq_eq_false_iff_ne.mpr c23
                                          have c23b1 : (a0 != 80) = true := bne_iff_ne.mpr c23
                                          obtain rfl := Option.some.inj H
                                          go_wp2_with (first | ((with_reducible refine gate_dst (N := 20) rfl ?_); refine Go.Proofs.Ytacmlggiklkbiaa.Mine.map_make ?hg (t := 64) ?ho (below_size (by repeat (first | (with_reducible first | exact HB.out | apply below_alloc | apply pw_below_drewN | apply below_drew1) | exact HB.out))) (by repeat (first | (with_reducible first | exact HB.out | apply below_alloc | apply pw_below_drewN | apply below_drew1) | exact HB.out)) ?_; (case hg => rfl); (case ho => rfl); intro w_1 gM20 hm_ hg_ hb_; have n0_ := Aside0.mk hm_; have n1_ := Aside0.mk hg_; have n2_ := Aside0.mk hb_; clear HB; have HM20 := n0_; have GgM20 := n1_; have HB := n2_; clear n0_ n1_ n2_; clear hm_ hg_ hb_) | (refine Go.Proofs.Ytacmlggiklkbiaa.Mine.map_insert (g := gM20) (l := []) ?hg ?hd (t := 64) (kt := 3) (et := 3) (.tmp 20) 118 11 ?ho Try.underlying64 Try.underlying3 ?hm HM20.out GgM20.out (by decide) (by repeat (first | (with_reducible first | exact HB.out | apply below_alloc | apply pw_below_drewN | apply below_drew1) | exact HB.out)) ?_; (case ho => rfl); (case hg => rfl); (case hd => rfl); (case hm => first | rfl | (go_simp; done) | (go_simp; rfl)); intro w_1 hm_ hb_; have n0_ := Aside0.mk hm_; have n1_ := Aside0.mk hb_; clear HM20; clear HB; have HM20 := n0_; have HB := n1_; clear n0_ n1_; clear hm_ hb_) | (refine Go.Proofs.Ytacmlggiklkbiaa.Mine.map_insert (g := gM20) (l := [(118, 11)]) ?hg ?hd (t := 64) (kt := 3) (et := 3) (.tmp 20) 102 12 ?ho Try.underlying64 Try.underlying3 ?hm HM20.out GgM20.out (by decide) (by repeat (first | (with_reducible first | exact HB.out | apply below_alloc | apply pw_below_drewN | apply below_drew1) | exact HB.out)) ?_; (case ho => rfl); (case hg => rfl); (case hd => rfl); (case hm => first | rfl | (go_simp; done) | (go_simp; rfl)); intro w_1 hm_ hb_; have n0_ := Aside0.mk hm_; have n1_ := Aside0.mk hb_; clear HM20; clear HB; have HM20 := n0_; have HB := n1_; clear n0_ n1_; clear hm_ hb_) | ((with_reducible refine gate_dst (N := 23) rfl ?_); refine Go.Proofs.Ytacmlggiklkbiaa.Mine.map_look (w0 := w) (base := w.heap.size) (g := gM20) (l := [(118, 11), (102, 12)]) ?hg (t := 64) (kt := 3) (et := 3) (.tmp 21) (.tmp 22) ?ho Try.underlying64 Try.underlying3 Try.underlying3 ?kk ?hm ?hx HM20.out (Try.zeroValue3 _) ?_; (case ho => rfl); (case hg => rfl); (case hm => first | rfl | (go_simp; done) | (go_simp; rfl)); (case hx => first | rfl | (go_simp; done) | (go_simp; rfl))))
                                          go_ret
                                          exact ⟨by first | rfl | (simp [errW_none, errW_some] <;> rfl) | (simp [*, errW_none, errW_some] <;> rfl), by repeat (first | (with_reducible first | exact HB.out | apply below_alloc | apply pw_below_drewN | apply below_drew1) | exact HB.out)⟩

/-! ### impl_within: function 37 -/
def impl_within.f (a0 : Int) (a1 : Int) (a2 : Int) : Option (Bool) := if a0 ≥ a1 then (some (decide (a0 ≤ a2))) else (some false)
set_option maxHeartbeats 8000000 in
set_option maxRecDepth 100000 in
theorem impl_within.calls (a0 : Int) (a1 : Int) (a2 : Int) (r : Bool) (w : World) (h : impl_within.f a0 a1 a2 = some r) :
    Calls Try.prog 37 #[.int .i64 a0, .int .i64 a1, .int .i64 a2] w fun e w' => e = .returned (.bool r) ∧ Drawn0 w w' := by
  have H : (if a0 ≥ a1 then (some (decide (a0 ≤ a2))) else (some false)) = some r := h
  clear h
  by_cases c4 : a0 ≥ a1
  · rw [if_pos c4] at H
    have c4b0 : decide (a1 ≤ a0) = true := decide_eq_true c4
    clear c4
    obtain rfl := Option.some.inj H
    go_enter Try.func37, Try.ntmps37
    go_wp2
    go_ret
    exact ⟨by first | rfl | (simp; done) | (simp [*]; done), by repeat (first | exact Drawn0.refl _ | apply Drawn0.step)⟩
  · rw [if_neg c4] at H
    have c4b0 : decide (a1 ≤ a0) = false := decide_eq_false c4
    clear c4
    obtain rfl := Option.some.inj H
    go_enter Try.func37, Try.ntmps37
    go_wp2
    go_ret
    exact ⟨by first | rfl | (simp; done) | (simp [*]; done), by repeat (first | exact Drawn0.refl _ | apply Drawn0.step)⟩

/-! ### impl_RuneBytes: function 54 -/
def impl_RuneBytes.f (a0 : Int) : Option (ByteArray) := (impl_within.f a0 0 1114111).bind fun t193 => (if t193 = true then ((impl_within.f a0 55296 57343).bind fun t194 => (if t194 = true then (some (⟨#[]⟩ : ByteArray)) else (some (Utf8.encode (wrap32 (a0)))))) else (some (⟨#[]⟩ : ByteArray)))
set_option maxHeartbeats 8000000 in
set_option maxRecDepth 100000 in
theorem impl_RuneBytes.calls (a0 : Int) (r : ByteArray) (w : World) (h : impl_RuneBytes.f a0 = some r) :
    Calls Try.prog 54 #[.int .i64 a0] w fun e w' => e = .returned (.string r) ∧ Drawn0 w w' := by
  have H : ((impl_within.f a0 0 1114111).bind fun t193 => (if t193 = true then ((impl_within.f a0 55296 57343).bind fun t194 => (if t194 = true then (some (⟨#[]⟩ : ByteArray)) else (some (Utf8.encode (wrap32 (a0)))))) else (some (⟨#[]⟩ : ByteArray)))) = some r := h
  clear h
  replace H := Option.bind_eq_some_iff.mp H
  obtain ⟨t193, A20, H⟩ := H
  replace H : (if t193 = true then ((impl_within.f a0 55296 57343).bind fun t194 => (if t194 = true then (some (⟨#[]⟩ : ByteArray)) else (some (Utf8.encode (wrap32 (a0)))))) else (some (⟨#[]⟩ : ByteArray))) = some r := H
  have A2 := Aside0.mk A20
  clear A20
  by_cases c3 : t193 = true
  · subst c3
    have H1 : ((impl_within.f a0 55296 57343).bind fun t194 => (if t194 = true then (some (⟨#[]⟩ : ByteArray)) else (some (Utf8.encode (wrap32 (a0)))))) = some r := by rw [if_pos rfl] at H; exact H
    clear H
    have H := H1
    clear H1
    replace H := Option.bind_eq_some_iff.mp H
    obtain ⟨t194, A40, H⟩ := H
    replace H : (if t194 = true then (some (⟨#[]⟩ : ByteArray)) else (some (Utf8.encode (wrap32 (a0))))) = some r := H
    have A4 := Aside0.mk A40
    clear A40
    by_cases c5 : t194 = true
    · subst c5
      have H1 : (some (⟨#[]⟩ : ByteArray)) = some r := by rw [if_pos rfl] at H; exact H
      clear H
      have H := H1
      clear H1
      obtain rfl := Option.some.inj H
      go_enter Try.func54, Try.ntmps54
      go_wp2_with (first | ((with_reducible refine gate_callee (f := 37) rfl ?_); refine goesL_ (some 4) rfl rfl Try.func37 (by kernel_rfl) rfl #[.int .i64 a0, .int .i64 0, .int .i64 1114111] rfl (by (try simp only [List.map_toArray, List.map_cons, List.map_nil]); first | done | rfl | (simp only [List.length_drop, List.length_take]; rfl)) ?_; (with_reducible refine (impl_within.calls a0 0 1114111 true _ A2.out).mono ?_); rintro e w' ⟨rfl, ⟨nd, rfl⟩⟩; refine ⟨_, rfl, ?_⟩) | (go_at_call 37; (with_reducible refine (impl_within.calls a0 55296 57343 true _ A4.out).mono ?_); rintro e w' ⟨rfl, ⟨nd, rfl⟩⟩))
      go_ret
      exact ⟨by first | rfl | (simp; done) | (simp [*]; done), by repeat (first | exact Drawn0.refl _ | apply Drawn0.step)⟩
    · replace c5 := Bool.eq_false_iff.mpr c5
      subst c5
      have H1 : (some (Utf8.encode (wrap32 (a0)))) = some r := by rw [if_neg (show ¬ (false = true) by decide)] at H; exact H
      clear H
      have H := H1
      clear H1
      obtain rfl := Option.some.inj H
      go_enter Try.func54, Try.ntmps54
      go_wp2_with (first | ((with_reducible refine gate_callee (f := 37) rfl ?_); refine goesL_ (some 4) rfl rfl Try.func37 (by kernel_rfl) rfl #[.int .i64 a0, .int .i64 0, .int .i64 1114111] rfl (by (try simp only [List.map_toArray, List.map_cons, List.map_nil]); first | done | rfl | (simp only [List.length_drop, List.length_take]; rfl)) ?_; (with_reducible refine (impl_within.calls a0 0 1114111 true _ A2.out).mono ?_); rintro e w' ⟨rfl, ⟨nd, rfl⟩⟩; refine ⟨_, rfl, ?_⟩) | (go_at_call 37; (with_reducible refine (impl_within.calls a0 55296 57343 false _ A4.out).mono ?_); rintro e w' ⟨rfl, ⟨nd, rfl⟩⟩))
      go_ret
      exact ⟨by first | rfl | (simp; done) | (simp [*]; done), by repeat (first | exact Drawn0.refl _ | apply Drawn0.step)⟩
  · replace c3 := Bool.eq_false_iff.mpr c3
    subst c3
    have H1 : (some (⟨#[]⟩ : ByteArray)) = some r := by rw [if_neg (show ¬ (false = true) by decide)] at H; exact H
    clear H
    have H := H1
    clear H1
    obtain rfl := Option.some.inj H
    go_enter Try.func54, Try.ntmps54
    go_wp2_with (first | ((with_reducible refine gate_callee (f := 37) rfl ?_); refine goesL_ (some 4) rfl rfl Try.func37 (by kernel_rfl) rfl #[.int .i64 a0, .int .i64 0, .int .i64 1114111] rfl (by (try simp only [List.map_toArray, List.map_cons, List.map_nil]); first | done | rfl | (simp only [List.length_drop, List.length_take]; rfl)) ?_; (with_reducible refine (impl_within.calls a0 0 1114111 false _ A2.out).mono ?_); rintro e w' ⟨rfl, ⟨nd, rfl⟩⟩; refine ⟨_, rfl, ?_⟩))
    go_ret
    exact ⟨by first | rfl | (simp; done) | (simp [*]; done), by repeat (first | exact Drawn0.refl _ | apply Drawn0.step)⟩

/-! ### impl_hexValue: function 55 -/
def impl_hexValue.l0 : Nat → ByteArray → Int → Int → Int → Int → Option (Int × Bool)
  | 0, _, _, _, _, _ => none
  | k + 1, x0, x1, x8, x11, x12 => if x12 < x11 then ((impl_byteAt.f x0 (wrap64 (x1 + x12))).bind fun t195 => ((impl_within.f t195 48 57).bind fun t196 => (if t196 = true then (impl_hexValue.l0 k x0 x1 (wrap64 ((wrap64 ((wrap64 (16 * x8)) + t195)) - 48)) x11 (wrap64 (x12 + 1))) else ((impl_within.f t195 97 102).bind fun t197 => (if t197 = true then (impl_hexValue.l0 k x0 x1 (wrap64 ((wrap64 ((wrap64 ((wrap64 (16 * x8)) + t195)) - 97)) + 10)) x11 (wrap64 (x12 + 1))) else ((impl_within.f t195 65 70).bind fun t198 => (if t198 = true then (impl_hexValue.l0 k x0 x1 (wrap64 ((wrap64 ((wrap64 ((wrap64 (16 * x8)) + t195)) - 65)) + 10)) x11 (wrap64 (x12 + 1))) else (some (0, false))))))))) else (some (x8, true))
def impl_hexValue.f (k : Nat) (a0 : ByteArray) (a1 : Int) (a2 : Int) : Option (Int × Bool) := impl_hexValue.l0 k a0 a1 0 a2 0
theorem impl_hexValue.mono_l : ∀ k, (∀ y0 y1 y2 y3 y4, LeO (impl_hexValue.l0 k y0 y1 y2 y3 y4) (impl_hexValue.l0 (k + 1) y0 y1 y2 y3 y4))
  | 0 => fun _ _ _ _ _ r h => by simp [impl_hexValue.l0] at h
  | k + 1 => by
    have ih0 := impl_hexValue.mono_l k
    · intro y0 y1 y2 y3 y4
      unfold impl_hexValue.l0
      repeat' first
      | (with_reducible exact ih0 _ _ _ _ _)
      | (with_reducible exact LeO.refl _)
      | (with_reducible exact LeO.none _)
      | (with_reducible refine LeO.ite ?_ ?_)
      | (with_reducible refine LeO.bind ?_ (fun _ => ?_))
      | exact ih0 _ _ _ _ _
      | exact LeO.none _
      | refine LeO.ite ?_ ?_
      | refine LeO.bind ?_ (fun _ => ?_)
theorem impl_hexValue.mono : ∀ a0 a1 a2 k, LeO (impl_hexValue.f k a0 a1 a2) (impl_hexValue.f (k + 1) a0 a1 a2) := by
  intro a0 a1 a2 k
  have ih0 := impl_hexValue.mono_l k
  unfold impl_hexValue.f
  repeat' first
      | (with_reducible exact ih0 _ _ _ _ _)
      | (with_reducible exact LeO.refl _)
      | (with_reducible exact LeO.none _)
      | (with_reducible refine LeO.ite ?_ ?_)
      | (with_reducible refine LeO.bind ?_ (fun _ => ?_))
      | exact ih0 _ _ _ _ _
      | exact LeO.none _
      | refine LeO.ite ?_ ?_
      | refine LeO.bind ?_ (fun _ => ?_)
set_option maxHeartbeats 8000000 in
set_option maxRecDepth 100000 in
theorem impl_hexValue.calls (k : Nat) (a0 : ByteArray) (a1 : Int) (a2 : Int) (r1 : Int) (r2 : Bool) (w : World) (h : impl_hexValue.f k a0 a1 a2 = some (r1, r2)) :
    Calls Try.prog 55 #[.string a0, .int .i64 a1, .int .i64 a2] w fun e w' => e = .returned (.tuple #[.int .i64 r1, .bool r2]) ∧ Below w.heap.size w w' := by
  have HB := Aside0.mk (Below.refl w.heap.size w)
  have H : (impl_hexValue.l0 k a0 a1 0 a2 0) = some (r1, r2) := h
  clear h
  have H' := Aside0.mk H
  clear H
  go_enter Try.func55, Try.ntmps55
  go_wp2
  go_loopg [8, 12] k (fun kq v8 v12 w' => ∃ (x8_1 : Int) (x12_1 : Int), v8 = .int .i64 x8_1 ∧ v12 = .int .i64 x12_1 ∧ Aside0 (impl_hexValue.l0 kq a0 a1 x8_1 a2 x12_1 = some (r1, r2)) ∧ Aside0 (kq ≤ k) ∧ Aside0 (Below w.heap.size w w'))
  case atStart => exact ⟨(0), (0), (by first | rfl | (simp; done) | (simp [*]; done)), (by first | rfl | (simp; done) | (simp [*]; done)), H', ⟨Nat.le_refl _⟩, ⟨by repeat (first | (with_reducible first | exact HB.out | apply below_alloc | apply pw_below_drewN | apply below_drew1) | exact HB.out)⟩⟩
  case round =>
    clear H'
    try clear p2
    obtain ⟨x8_1, x12_1, rfl, rfl, HA, HK1, HB⟩ := hrel
    cases gk with
    | zero => exact absurd HA.out (by simp [impl_hexValue.l0])
    | succ k1 =>
      have H := HA.out
      clear HA
      simp only [impl_hexValue.l0] at H
      by_cases c4 : x12_1 < a2
      · rw [if_pos c4] at H
        have c4b0 : decide (x12_1 < a2) = true := decide_eq_true c4
        clear c4
        replace H := Option.bind_eq_some_iff.mp H
        obtain ⟨t195, A50, H⟩ := H
        replace H : ((impl_within.f t195 48 57).bind fun t196 => (if t196 = true then (impl_hexValue.l0 k1 a0 a1 (wrap64 ((wrap64 ((wrap64 (16 * x8_1)) + t195)) - 48)) a2 (wrap64 (x12_1 + 1))) else ((impl_within.f t195 97 102).bind fun t197 => (if t197 = true then (impl_hexValue.l0 k1 a0 a1 (wrap64 ((wrap64 ((wrap64 ((wrap64 (16 * x8_1)) + t195)) - 97)) + 10)) a2 (wrap64 (x12_1 + 1))) else ((impl_within.f t195 65 70).bind fun t198 => (if t198 = true then (impl_hexValue.l0 k1 a0 a1 (wrap64 ((wrap64 ((wrap64 ((wrap64 (16 * x8_1)) + t195)) - 65)) + 10)) a2 (wrap64 (x12_1 + 1))) else (some (0, false)))))))) = some (r1, r2) := H
        have A5 := Aside0.mk A50
        clear A50
        replace H := Option.bind_eq_some_iff.mp H
        obtain ⟨t196, A60, H⟩ := H
        replace H : (if t196 = true then (impl_hexValue.l0 k1 a0 a1 (wrap64 ((wrap64 ((wrap64 (16 * x8_1)) + t195)) - 48)) a2 (wrap64 (x12_1 + 1))) else ((impl_within.f t195 97 102).bind fun t197 => (if t197 = true then (impl_hexValue.l0 k1 a0 a1 (wrap64 ((wrap64 ((wrap64 ((wrap64 (16 * x8_1)) + t195)) - 97)) + 10)) a2 (wrap64 (x12_1 + 1))) else ((impl_within.f t195 65 70).bind fun t198 => (if t198 = true then (impl_hexValue.l0 k1 a0 a1 (wrap64 ((wrap64 ((wrap64 ((wrap64 (16 * x8_1)) + t195)) - 65)) + 10)) a2 (wrap64 (x12_1 + 1))) else (some (0, false))))))) = some (r1, r2) := H
        have A6 := Aside0.mk A60
        clear A60
        by_cases c7 : t196 = true
        · subst c7
          have H1 : (impl_hexValue.l0 k1 a0 a1 (wrap64 ((wrap64 ((wrap64 (16 * x8_1)) + t195)) - 48)) a2 (wrap64 (x12_1 + 1))) = some (r1, r2) := by rw [if_pos rfl] at H; exact H
          clear H
          have H := H1
          clear H1
          have H' := Aside0.mk H
          clear H
          go_wp2_with (first | ((with_reducible refine gate_callee (f := 30) rfl ?_); refine goesL_ (some 19) rfl rfl Try.func30 (by kernel_rfl) rfl #[.string a0, .int .i64 (wrap64 (a1 + x12_1))] rfl (by (try simp only [List.map_toArray, List.map_cons, List.map_nil]); first | done | rfl | (simp only [List.length_drop, List.length_take]; rfl)) ?_; (with_reducible refine (impl_byteAt.calls a0 (wrap64 (a1 + x12_1)) t195 _ A5.out).mono ?_); rintro e w8 ⟨rfl, hb⟩; refine ⟨_, rfl, ?_⟩; have n0_ := Aside0.mk (below_step (by repeat (first | (with_reducible first | exact HB.out | apply below_alloc | apply pw_below_drewN | apply below_drew1) | exact HB.out)) hb); clear HB; have HB := n0_; clear n0_; (try clear hb); (try clear hb2); (try clear hk); (try clear hi)) | ((with_reducible refine gate_callee (f := 37) rfl ?_); refine goesL_ (some 22) rfl rfl Try.func37 (by kernel_rfl) rfl #[.int .i64 t195, .int .i64 48, .int .i64 57] rfl (by (try simp only [List.map_toArray, List.map_cons, List.map_nil]); first | done | rfl | (simp only [List.length_drop, List.length_take]; rfl)) ?_; (with_reducible refine (impl_within.calls t195 48 57 true _ A6.out).mono ?_); rintro e w' ⟨rfl, ⟨nd, rfl⟩⟩; refine ⟨_, rfl, ?_⟩))
          go_roundg k1
          case measure => have := HK1.out; omega
          case rel => exact ⟨(wrap64 ((wrap64 ((wrap64 (16 * x8_1)) + t195)) - 48)), (wrap64 (x12_1 + 1)), (by first | rfl | (simp; done) | (simp [*]; done)), (by first | rfl | (simp; done) | (simp [*]; done)), H', ⟨by have := HK1.out; omega⟩, ⟨by repeat (first | (with_reducible first | exact HB.out | apply below_alloc | apply pw_below_drewN | apply below_drew1) | exact HB.out)⟩⟩
        · replace c7 := Bool.eq_false_iff.mpr c7
          subst c7
          have H1 : ((impl_within.f t195 97 102).bind fun t197 => (if t197 = true then (impl_hexValue.l0 k1 a0 a1 (wrap64 ((wrap64 ((wrap64 ((wrap64 (16 * x8_1)) + t195)) - 97)) + 10)) a2 (wrap64 (x12_1 + 1))) else ((impl_within.f t195 65 70).bind fun t198 => (if t198 = true then (impl_hexValue.l0 k1 a0 a1 (wrap64 ((wrap64 ((wrap64 ((wrap64 (16 * x8_1)) + t195)) - 65)) + 10)) a2 (wrap64 (x12_1 + 1))) else (some (0, false)))))) = some (r1, r2) := by rw [if_neg (show ¬ (false = true) by decide)] at H; exact H
          clear H
          have H := H1
          clear H1
          replace H := Option.bind_eq_some_iff.mp H
          obtain ⟨t197, A90, H⟩ := H
          replace H : (if t197 = true then (impl_hexValue.l0 k1 a0 a1 (wrap64 ((wrap64 ((wrap64 ((wrap64 (16 * x8_1)) + t195)) - 97)) + 10)) a2 (wrap64 (x12_1 + 1))) else ((impl_within.f t195 65 70).bind fun t198 => (if t198 = true then (impl_hexValue.l0 k1 a0 a1 (wrap64 ((wrap64 ((wrap64 ((wrap64 (16 * x8_1)) + t195)) - 65)) + 10)) a2 (wrap64 (x12_1 + 1))) else (some (0, false))))) = some (r1, r2) := H
          have A9 := Aside0.mk A90
          clear A90
          by_cases c10 : t197 = true
          · subst c10
            have H1 : (impl_hexValue.l0 k1 a0 a1 (wrap64 ((wrap64 ((wrap64 ((wrap64 (16 * x8_1)) + t195)) - 97)) + 10)) a2 (wrap64 (x12_1 + 1))) = some (r1, r2) := by rw [if_pos rfl] at H; exact H
            clear H
            have H := H1
            clear H1
            have H' := Aside0.mk H
            clear H
            go_wp2_with (first | ((with_reducible refine gate_callee (f := 30) rfl ?_); refine goesL_ (some 19) rfl rfl Try.func30 (by kernel_rfl) rfl #[.string a0, .int .i64 (wrap64 (a1 + x12_1))] rfl (by (try simp only [List.map_toArray, List.map_cons, List.map_nil]); first | done | rfl | (simp only [List.length_drop, List.length_take]; rfl)) ?_; (with_reducible refine (impl_byteAt.calls a0 (wrap64 (a1 + x12_1)) t195 _ A5.out).mono ?_); rintro e w11 ⟨rfl, hb⟩; refine ⟨_, rfl, ?_⟩; have n0_ := Aside0.mk (below_step (by repeat (first | (with_reducible first | exact HB.out | apply below_alloc | apply pw_below_drewN | apply below_drew1) | exact HB.out)) hb); clear HB; have HB := n0_; clear n0_; (try clear hb); (try clear hb2); (try clear hk); (try clear hi)) | ((with_reducible refine gate_callee (f := 37) rfl ?_); refine goesL_ (some 22) rfl rfl Try.func37 (by kernel_rfl) rfl #[.int .i64 t195, .int .i64 48, .int .i64 57] rfl (by (try simp only [List.map_toArray, List.map_cons, List.map_nil]); first | done | rfl | (simp only [List.length_drop, List.length_take]; rfl)) ?_; (with_reducible refine (impl_within.calls t195 48 57 false _ A6.out).mono ?_); rintro e w' ⟨rfl, ⟨nd, rfl⟩⟩; refine ⟨_, rfl, ?_⟩) | ((with_reducible refine gate_callee (f := 37) rfl ?_); refine goesL_ (some 30) rfl rfl Try.func37 (by kernel_rfl) rfl #[.int .i64 t195, .int .i64 97, .int .i64 102] rfl (by (try simp only [List.map_toArray, List.map_cons, List.map_nil]); first | done | rfl | (simp only [List.length_drop, List.length_take]; rfl)) ?_; (with_reducible refine (impl_within.calls t195 97 102 true _ A9.out).mono ?_); rintro e w' ⟨rfl, ⟨nd, rfl⟩⟩; refine ⟨_, rfl, ?_⟩))
            go_roundg k1
            case measure => have := HK1.out; omega
            case rel => exact ⟨(wrap64 ((wrap64 ((wrap64 ((wrap64 (16 * x8_1)) + t195)) - 97)) + 10)), (wrap64 (x12_1 + 1)), (by first | rfl | (simp; done) | (simp [*]; done)), (by first | rfl | (simp; done) | (simp [*]; done)), H', ⟨by have := HK1.out; omega⟩, ⟨by repeat (first | (with_reducible first | exact HB.out | apply below_alloc | apply pw_below_drewN | apply below_drew1) | exact HB.out)⟩⟩
          · replace c10 := Bool.eq_false_iff.mpr c10
            subst c10
            have H1 : ((impl_within.f t195 65 70).bind fun t198 => (if t198 = true then (impl_hexValue.l0 k1 a0 a1 (wrap64 ((wrap64 ((wrap64 ((wrap64 (16 * x8_1)) + t195)) - 65)) + 10)) a2 (wrap64 (x12_1 + 1))) else (some (0, false)))) = some (r1, r2) := by rw [if_neg (show ¬ (false = true) by decide)] at H; exact H
            clear H
            have H := H1
            clear H1
            replace H := Option.bind_eq_some_iff.mp H
            obtain ⟨t198, A120, H⟩ := H
            replace H : (if t198 = true then (impl_hexValue.l0 k1 a0 a1 (wrap64 ((wrap64 ((wrap64 ((wrap64 (16 * x8_1)) + t195)) - 65)) + 10)) a2 (wrap64 (x12_1 + 1))) else (some (0, false))) = some (r1, r2) := H
            have A12 := Aside0.mk A120
            clear A120
            by_cases c13 : t198 = true
            · subst c13
              have H1 : (impl_hexValue.l0 k1 a0 a1 (wrap64 ((wrap64 ((wrap64 ((wrap64 (16 * x8_1)) + t195)) - 65)) + 10)) a2 (wrap64 (x12_1 + 1))) = some (r1, r2) := by rw [if_pos rfl] at H; exact H
              clear H
              have H := H1
              clear H1
              have H' := Aside0.mk H
              clear H
              go_wp2_with (first | ((with_reducible refine gate_callee (f := 30) rfl ?_); refine goesL_ (some 19) rfl rfl Try.func30 (by kernel_rfl) rfl #[.string a0, .int .i64 (wrap64 (a1 + x12_1))] rfl (by (try simp only [List.map_toArray, List.map_cons, List.map_nil]); first | done | rfl | (simp only [List.length_drop, List.length_take]; rfl)) ?_; (with_reducible refine (impl_byteAt.calls a0 (wrap64 (a1 + x12_1)) t195 _ A5.out).mono ?_); rintro e w14 ⟨rfl, hb⟩; refine ⟨_, rfl, ?_⟩; have n0_ := Aside0.mk (below_step (by repeat (first | (with_reducible first | exact HB.out | apply below_alloc | apply pw_below_drewN | apply below_drew1) | exact HB.out)) hb); clear HB; have HB := n0_; clear n0_; (try clear hb); (try clear hb2); (try clear hk); (try clear hi)) | ((with_reducible refine gate_callee (f := 37) rfl ?_); refine goesL_ (some 22) rfl rfl Try.func37 (by kernel_rfl) rfl #[.int .i64 t195, .int .i64 48, .int .i64 57] rfl (by (try simp only [List.map_toArray, List.map_cons, List.map_nil]); first | done | rfl | (simp only [List.length_drop, List.length_take]; rfl)) ?_; (with_reducible refine (impl_within.calls t195 48 57 false _ A6.out).mono ?_); rintro e w' ⟨rfl, ⟨nd, rfl⟩⟩; refine ⟨_, rfl, ?_⟩) | ((with_reducible refine gate_callee (f := 37) rfl ?_); refine goesL_ (some 30) rfl rfl Try.func37 (by kernel_rfl) rfl #[.int .i64 t195, .int .i64 97, .int .i64 102] rfl (by (try simp only [List.map_toArray, List.map_cons, List.map_nil]); first | done | rfl | (simp only [List.length_drop, List.length_take]; rfl)) ?_; (with_reducible refine (impl_within.calls t195 97 102 false _ A9.out).mono ?_); rintro e w' ⟨rfl, ⟨nd, rfl⟩⟩; refine ⟨_, rfl, ?_⟩) | ((with_reducible refine gate_callee (f := 37) rfl ?_); refine goesL_ (some 39) rfl rfl Try.func37 (by kernel_rfl) rfl #[.int .i64 t195, .int .i64 65, .int .i64 70] rfl (by (try simp only [List.map_toArray, List.map_cons, List.map_nil]); first | done | rfl | (simp only [List.length_drop, List.length_take]; rfl)) ?_; (with_reducible refine (impl_within.calls t195 65 70 true _ A12.out).mono ?_); rintro e w' ⟨rfl, ⟨nd, rfl⟩⟩; refine ⟨_, rfl, ?_⟩))
              go_roundg k1
              case measure => have := HK1.out; omega
              case rel => exact ⟨(wrap64 ((wrap64 ((wrap64 ((wrap64 (16 * x8_1)) + t195)) - 65)) + 10)), (wrap64 (x12_1 + 1)), (by first | rfl | (simp; done) | (simp [*]; done)), (by first | rfl | (simp; done) | (simp [*]; done)), H', ⟨by have := HK1.out; omega⟩, ⟨by repeat (first | (with_reducible first | exact HB.out | apply below_alloc | apply pw_below_drewN | apply below_drew1) | exact HB.out)⟩⟩
            · replace c13 := Bool.eq_false_iff.mpr c13
              subst c13
              have H1 : (some (0, false)) = some (r1, r2) := by rw [if_neg (show ¬ (false = true) by decide)] at H; exact H
              clear H
              have H := H1
              clear H1
              simp only [Option.some.injEq, Prod.mk.injEq] at H
              obtain ⟨rfl, rfl⟩ := H
              go_wp2_with (first | ((with_reducible refine gate_callee (f := 30) rfl ?_); refine goesL_ (some 19) rfl rfl Try.func30 (by kernel_rfl) rfl #[.string a0, .int .i64 (wrap64 (a1 + x12_1))] rfl (by (try simp only [List.map_toArray, List.map_cons, List.map_nil]); first | done | rfl | (simp only [List.length_drop, List.length_take]; rfl)) ?_; (with_reducible refine (impl_byteAt.calls a0 (wrap64 (a1 + x12_1)) t195 _ A5.out).mono ?_); rintro e w15 ⟨rfl, hb⟩; refine ⟨_, rfl, ?_⟩; have n0_ := Aside0.mk (below_step (by repeat (first | (with_reducible first | exact HB.out | apply below_alloc | apply pw_below_drewN | apply below_drew1) | exact HB.out)) hb); clear HB; have HB := n0_; clear n0_; (try clear hb); (try clear hb2); (try clear hk); (try clear hi)) | ((with_reducible refine gate_callee (f := 37) rfl ?_); refine goesL_ (some 22) rfl rfl Try.func37 (by kernel_rfl) rfl #[.int .i64 t195, .int .i64 48, .int .i64 57] rfl (by (try simp only [List.map_toArray, List.map_cons, List.map_nil]); first | done | rfl | (simp only [List.length_drop, List.length_take]; rfl)) ?_; (with_reducible refine (impl_within.calls t195 48 57 false _ A6.out).mono ?_); rintro e w' ⟨rfl, ⟨nd, rfl⟩⟩; refine ⟨_, rfl, ?_⟩) | ((with_reducible refine gate_callee (f := 37) rfl ?_); refine goesL_ (some 30) rfl rfl Try.func37 (by kernel_rfl) rfl #[.int .i64 t195, .int .i64 97, .int .i64 102] rfl (by (try simp only [List.map_toArray, List.map_cons, List.map_nil]); first | done | rfl | (simp only [List.length_drop, List.length_take]; rfl)) ?_; (with_reducible refine (impl_within.calls t195 97 102 false _ A9.out).mono ?_); rintro e w' ⟨rfl, ⟨nd, rfl⟩⟩; refine ⟨_, rfl, ?_⟩) | ((with_reducible refine gate_callee (f := 37) rfl ?_); refine goesL_ (some 39) rfl rfl Try.func37 (by kernel_rfl) rfl #[.int .i64 t195, .int .i64 65, .int .i64 70] rfl (by (try simp only [List.map_toArray, List.map_cons, List.map_nil]); first | done | rfl | (simp only [List.length_drop, List.length_take]; rfl)) ?_; (with_reducible refine (impl_within.calls t195 65 70 false _ A12.out).mono ?_); rintro e w' ⟨rfl, ⟨nd, rfl⟩⟩; refine ⟨_, rfl, ?_⟩))
              go_ret2
              exact ⟨by first | rfl | (simp [errW_none, errW_some] <;> rfl) | (simp [*, errW_none, errW_some] <;> rfl), by repeat (first | (with_reducible first | exact HB.out | apply below_alloc | apply pw_below_drewN | apply below_drew1) | exact HB.out)⟩
      · rw [if_neg c4] at H
        have c4b0 : decide (x12_1 < a2) = false := decide_eq_false c4
        clear c4
        simp only [Option.some.injEq, Prod.mk.injEq] at H
        obtain ⟨rfl, rfl⟩ := H
        go_wp2
        go_ret2
        exact ⟨by first | rfl | (simp [errW_none, errW_some] <;> rfl) | (simp [*, errW_none, errW_some] <;> rfl), by repeat (first | (with_reducible first | exact HB.out | apply below_alloc | apply pw_below_drewN | apply below_drew1) | exact HB.out)⟩

end Go.Proofs.Ytacmlggiklkbiaa.PFnExactDoubleAt
