-- Written by a program of this session, out of the translation.
import Derived.Test.YtbjkaapkmemojaaPFnExactSourceNewx0
import Derived.Test.YtbjkaapkmemojaaPFnExactSourceNewx1
namespace Go.Proofs.Ytbjkaapkmemojaa.PFnExactSourceNew
open Go.RowKit Go.Proofs.YtbjkaapkmemojaaW.PrintWords Go.Proofs.YtbjkaapkmemojaaW.PrintLast Go.Proofs.YtbjkaapkmemojaaW.PrintMore
attribute [local go_sem] max2_int min2_int max_two min_two max_three min_three max_four min_four   -- for this text's walks alone
set_option linter.unusedVariables false
set_option linter.unusedSimpArgs false

/-! ### laws_heldPageS: function 29 -/
def laws_heldPageS.l0 : Nat → List (S58) → Int → Int → Option (Int)
  | 0, _, _, _ => none
  | k + 1, x0, x1, x5 => if x5 < (x0.length : Int) then (if 0 ≤ x5 then (if ((rd_T58 x0 x5).f0) = x1 then ((laws_heldByteS.f k ((rd_T58 x0 x5).f1) (wrap64 (x1 + 1))).bind fun t115 => (if t115 < 0 then (some (-1)) else (laws_heldPageS.l0 k x0 t115 (wrap64 (x5 + 1))))) else (some (-1))) else (none)) else (some x1)
def laws_heldPageS.f (k : Nat) (l0 : List (S58)) (a1 : Int) : Option (Int) := laws_heldPageS.l0 k l0 a1 0
theorem laws_heldPageS.mono_l : ∀ k, (∀ y0 y1 y2, LeO (laws_heldPageS.l0 k y0 y1 y2) (laws_heldPageS.l0 (k + 1) y0 y1 y2))
  | 0 => fun _ _ _ r h => by simp [laws_heldPageS.l0] at h
  | k + 1 => by
    have ih0 := laws_heldPageS.mono_l k
    · intro y0 y1 y2
      unfold laws_heldPageS.l0
      repeat' first
      | (with_reducible exact ih0 _ _ _)
      | (with_reducible exact laws_heldByteS.mono _ _ _)
      | (with_reducible exact LeO.refl _)
      | (with_reducible exact LeO.none _)
      | (with_reducible refine LeO.ite ?_ ?_)
      | (with_reducible refine LeO.bind ?_ (fun _ => ?_))
      | exact ih0 _ _ _
      | exact laws_heldByteS.mono _ _ _
      | exact LeO.none _
      | refine LeO.ite ?_ ?_
      | refine LeO.bind ?_ (fun _ => ?_)
theorem laws_heldPageS.mono : ∀ a0 a1 k, LeO (laws_heldPageS.f k a0 a1) (laws_heldPageS.f (k + 1) a0 a1) := by
  intro a0 a1 k
  have ih0 := laws_heldPageS.mono_l k
  unfold laws_heldPageS.f
  repeat' first
      | (with_reducible exact ih0 _ _ _)
      | (with_reducible exact laws_heldByteS.mono _ _ _)
      | (with_reducible exact LeO.refl _)
      | (with_reducible exact LeO.none _)
      | (with_reducible refine LeO.ite ?_ ?_)
      | (with_reducible refine LeO.bind ?_ (fun _ => ?_))
      | exact ih0 _ _ _
      | exact laws_heldByteS.mono _ _ _
      | exact LeO.none _
      | refine LeO.ite ?_ ?_
      | refine LeO.bind ?_ (fun _ => ?_)
set_option maxHeartbeats 8000000 in
set_option maxRecDepth 100000 in
theorem laws_heldPageS.calls (k : Nat) (A0 : Option Addr) (c0 : Nat) (l0 : List (S58)) (a1 : Int) (r : Int) (w : World) (hr0 : Kd.C k58 w A0 l0.length l0) (hc0 : l0.length ≤ c0) (h : laws_heldPageS.f k l0 a1 = some r) :
    Calls Try.prog 29 #[.slice A0 l0.length c0, .int .i64 a1] w fun e w' => e = .returned (.int .i64 r) ∧ Drawn0 w w' := by
  have HR0 := Aside0.mk hr0
  have HC0 := Aside0.mk hc0
  clear hr0 hc0
  have H : (laws_heldPageS.l0 k l0 a1 0) = some r := h
  clear h
  have H' := Aside0.mk H
  clear H
  go_enter Try.func29, Try.ntmps29
  go_wp2
  go_loopg [1, 5] k (fun kq v1 v5 w' => ∃ (x1_1 : Int) (x5_1 : Int), v1 = .int .i64 x1_1 ∧ v5 = .int .i64 x5_1 ∧ Aside0 (laws_heldPageS.l0 kq l0 x1_1 x5_1 = some r) ∧ Aside0 (kq ≤ k) ∧ Drawn0 w w')
  case atStart => exact ⟨(a1), (0), (by first | rfl | (simp; done) | (simp [*]; done)), (by first | rfl | (simp; done) | (simp [*]; done)), H', ⟨Nat.le_refl _⟩, by repeat (first | exact Drawn0.refl _ | apply Drawn0.step)⟩
  case round =>
    clear H'
    try clear c2
    try clear p2
    obtain ⟨x1_1, x5_1, rfl, rfl, HA, HK1, ⟨m1, rfl⟩⟩ := hrel
    cases gk with
    | zero => exact absurd HA.out (by simp [laws_heldPageS.l0])
    | succ k1 =>
      have H := HA.out
      clear HA
      simp only [laws_heldPageS.l0] at H
      by_cases c3 : x5_1 < (l0.length : Int)
      · rw [if_pos c3] at H
        have c3b0 : decide (x5_1 < (l0.length : Int)) = true := decide_eq_true c3
        clear c3
        by_cases c4 : 0 ≤ x5_1
        · rw [if_pos c4] at H
          have c4b0 : decide (0 ≤ x5_1) = true := decide_eq_true c4
          clear c4
          by_cases c5 : ((rd_T58 l0 x5_1).f0) = x1_1
          · rw [if_pos c5] at H
            have c5b0 : (((rd_T58 l0 x5_1).f0) == x1_1) = true := beq_iff_eq.mpr c5
            have c5b1 : (((rd_T58 l0 x5_1).f0) != x1_1) = false := bne_eq_false_iff_eq.mpr c5
            clear c5
            replace H := Option.bind_eq_some_iff.mp H
            obtain ⟨t115, A60, H⟩ := H
            replace H : (if t115 < 0 then (some (-1)) else (laws_heldPageS.l0 k1 l0 t115 (wrap64 (x5_1 + 1)))) = some r := H
            have A6 := Aside0.mk A60
            clear A60
            by_cases c7 : t115 < 0
            · rw [if_pos c7] at H
              have c7b0 : decide (t115 < 0) = true := decide_eq_true c7
              clear c7
              obtain rfl := Option.some.inj H
              have p113 : 0 ≤ (x5_1 : Int) := of_decide_eq_true (by first | (with_reducible assumption) | assumption)
              have q113 : x5_1 < (l0.length : Int) := of_decide_eq_true (by first | (with_reducible assumption) | assumption)
              obtain ⟨ad113, A113_1, c113_1, e113, hx113_0, hx113_1, hl113_1, hi113_1⟩ := at_T58 HR0.out x5_1 p113 q113
              cases e113
              have HR113_1 := Aside0.mk hi113_1
              have HC113_1 := Aside0.mk hl113_1
              clear hi113_1 hl113_1
              replace p113 := eq_true p113
              replace q113 := eq_true q113
              have p114 : 0 ≤ (x5_1 : Int) := of_decide_eq_true (by first | (with_reducible assumption) | assumption)
              have q114 : x5_1 < (l0.length : Int) := of_decide_eq_true (by first | (with_reducible assumption) | assumption)
              obtain ⟨ad114, A114_1, c114_1, e114, hx114_0, hx114_1, hl114_1, hi114_1⟩ := at_T58 HR0.out x5_1 p114 q114
              obtain rfl : ad113 = ad114 := (by injection e114)
              have HR114_1 := Aside0.mk hi114_1
              have HC114_1 := Aside0.mk hl114_1
              clear hi114_1 hl114_1
              replace p114 := eq_true p114
              replace q114 := eq_true q114
              have ea_ := Option.some.inj (hx113_1.symm.trans hx114_1)
              injection ea_ with ea_ en_ ec_
              subst ea_
              subst ec_
              clear en_
              go_wp2_with (first | ((with_reducible refine gate_callee (f := 26) rfl ?_); refine goesL_ (some 27) rfl rfl Try.func26 (by kernel_rfl) rfl #[.slice A113_1 ((rd_T58 l0 x5_1).f1).length c113_1, .int .i64 (wrap64 (x1_1 + 1))] rfl (by (try simp only [List.map_toArray, List.map_cons, List.map_nil]); first | done | rfl | (simp only [List.length_drop, List.length_take]; rfl)) ?_; (with_reducible refine (laws_heldByteS.calls k1 _ _ ((rd_T58 l0 x5_1).f1) (wrap64 (x1_1 + 1)) t115 _ ?side1 ?side2 A6.out).mono ?_); (case side1 => repeat (first | exact HR114_1.out | (with_reducible refine Kd.C_alloc ?_ _) | (with_reducible refine Kd.C_drewN ?_ _) | (with_reducible refine Kd.C_drew ?_))); (case side2 => exact HC114_1.out); rintro e w' ⟨rfl, ⟨nd, rfl⟩⟩; refine ⟨_, rfl, ?_⟩))
              go_ret
              exact ⟨by first | rfl | (simp; done) | (simp [*]; done), by repeat (first | exact Drawn0.refl _ | apply Drawn0.step)⟩
            · rw [if_neg c7] at H
              have c7b0 : decide (t115 < 0) = false := decide_eq_false c7
              clear c7
              have H' := Aside0.mk H
              clear H
              have p113 : 0 ≤ (x5_1 : Int) := of_decide_eq_true (by first | (with_reducible assumption) | assumption)
              have q113 : x5_1 < (l0.length : Int) := of_decide_eq_true (by first | (with_reducible assumption) | assumption)
              obtain ⟨ad113, A113_1, c113_1, e113, hx113_0, hx113_1, hl113_1, hi113_1⟩ := at_T58 HR0.out x5_1 p113 q113
              cases e113
              have HR113_1 := Aside0.mk hi113_1
              have HC113_1 := Aside0.mk hl113_1
              clear hi113_1 hl113_1
              replace p113 := eq_true p113
              replace q113 := eq_true q113
              have p114 : 0 ≤ (x5_1 : Int) := of_decide_eq_true (by first | (with_reducible assumption) | assumption)
              have q114 : x5_1 < (l0.length : Int) := of_decide_eq_true (by first | (with_reducible assumption) | assumption)
              obtain ⟨ad114, A114_1, c114_1, e114, hx114_0, hx114_1, hl114_1, hi114_1⟩ := at_T58 HR0.out x5_1 p114 q114
              obtain rfl : ad113 = ad114 := (by injection e114)
              have HR114_1 := Aside0.mk hi114_1
              have HC114_1 := Aside0.mk hl114_1
              clear hi114_1 hl114_1
              replace p114 := eq_true p114
              replace q114 := eq_true q114
              have ea_ := Option.some.inj (hx113_1.symm.trans hx114_1)
              injection ea_ with ea_ en_ ec_
              subst ea_
              subst ec_
              clear en_
              go_wp2_with (first | ((with_reducible refine gate_callee (f := 26) rfl ?_); refine goesL_ (some 27) rfl rfl Try.func26 (by kernel_rfl) rfl #[.slice A113_1 ((rd_T58 l0 x5_1).f1).length c113_1, .int .i64 (wrap64 (x1_1 + 1))] rfl (by (try simp only [List.map_toArray, List.map_cons, List.map_nil]); first | done | rfl | (simp only [List.length_drop, List.length_take]; rfl)) ?_; (with_reducible refine (laws_heldByteS.calls k1 _ _ ((rd_T58 l0 x5_1).f1) (wrap64 (x1_1 + 1)) t115 _ ?side1 ?side2 A6.out).mono ?_); (case side1 => repeat (first | exact HR114_1.out | (with_reducible refine Kd.C_alloc ?_ _) | (with_reducible refine Kd.C_drewN ?_ _) | (with_reducible refine Kd.C_drew ?_))); (case side2 => exact HC114_1.out); rintro e w' ⟨rfl, ⟨nd, rfl⟩⟩; refine ⟨_, rfl, ?_⟩))
              go_roundg k1
              case measure => have := HK1.out; omega
              case rel => exact ⟨(t115), (wrap64 (x5_1 + 1)), (by first | rfl | (simp; done) | (simp [*]; done)), (by first | rfl | (simp; done) | (simp [*]; done)), H', ⟨by have := HK1.out; omega⟩, by repeat (first | exact Drawn0.refl _ | apply Drawn0.step)⟩
          · rw [if_neg c5] at H
            have c5b0 : (((rd_T58 l0 x5_1).f0) == x1_1) = false := beq_eq_false_iff_ne.mpr c5
            have c5b1 : (((rd_T58 l0 x5_1).f0) != x1_1) = true := bne_iff_ne.mpr c5
            obtain rfl := Option.some.inj H
            have p113 : 0 ≤ (x5_1 : Int) := of_decide_eq_true (by first | (with_reducible assumption) | assumption)
            have q113 : x5_1 < (l0.length : Int) := of_decide_eq_true (by first | (with_reducible assumption) | assumption)
            obtain ⟨ad113, A113_1, c113_1, e113, hx113_0, hx113_1, hl113_1, hi113_1⟩ := at_T58 HR0.out x5_1 p113 q113
            cases e113
            have HR113_1 := Aside0.mk hi113_1
            have HC113_1 := Aside0.mk hl113_1
            clear hi113_1 hl113_1
            replace p113 := eq_true p113
            replace q113 := eq_true q113
            go_wp2
            go_ret
            exact ⟨by first | rfl | (simp; done) | (simp [*]; done), by repeat (first | exact Drawn0.refl _ | apply Drawn0.step)⟩
        · rw [if_neg c4] at H
          exact absurd H (by simp)
      · rw [if_neg c3] at H
        have c3b0 : decide (x5_1 < (l0.length : Int)) = false := decide_eq_false c3
        clear c3
        obtain rfl := Option.some.inj H
        go_wp2
        go_ret
        exact ⟨by first | rfl | (simp; done) | (simp [*]; done), by repeat (first | exact Drawn0.refl _ | apply Drawn0.step)⟩

/-! ### laws_heldSource: function 12 -/
def laws_heldSource.f (k : Nat) (a0_0 : Int) (l0_1 : List (S58)) (a0_2 : Int) (a1 : Int) : Option (Int) := (laws_heldPageS.f k l0_1 a1).bind fun t117 => (if t117 < 0 then (some (-1)) else (some t117))
theorem laws_heldSource.mono : ∀ a0 a1 a2 a3 k, LeO (laws_heldSource.f k a0 a1 a2 a3) (laws_heldSource.f (k + 1) a0 a1 a2 a3) := by
  intro a0 a1 a2 a3 k
  unfold laws_heldSource.f
  repeat' first
      | (with_reducible exact laws_heldPageS.mono _ _ _)
      | (with_reducible exact LeO.refl _)
      | (with_reducible exact LeO.none _)
      | (with_reducible refine LeO.ite ?_ ?_)
      | (with_reducible refine LeO.bind ?_ (fun _ => ?_))
      | exact laws_heldPageS.mono _ _ _
      | exact LeO.none _
      | refine LeO.ite ?_ ?_
      | refine LeO.bind ?_ (fun _ => ?_)
set_option maxHeartbeats 8000000 in
set_option maxRecDepth 100000 in
theorem laws_heldSource.calls (k : Nat) (a0_0 : Int) (A0_1 : Option Addr) (c0_1 : Nat) (l0_1 : List (S58)) (a0_2 : Int) (a1 : Int) (r : Int) (w : World) (hr0_1 : Kd.C k58 w A0_1 l0_1.length l0_1) (hc0_1 : l0_1.length ≤ c0_1) (h : laws_heldSource.f k a0_0 l0_1 a0_2 a1 = some r) :
    Calls Try.prog 12 #[.agg #[.int .i64 a0_0, .slice A0_1 l0_1.length c0_1, .int .i64 a0_2], .int .i64 a1] w fun e w' => e = .returned (.int .i64 r) ∧ Below w.heap.size w w' := by
  have hu24 := Try.underlying24
  have HR0_1 := Aside0.mk hr0_1
  have HC0_1 := Aside0.mk hc0_1
  clear hr0_1 hc0_1
  have HB := Aside0.mk (Below.refl w.heap.size w)
  have H : ((laws_heldPageS.f k l0_1 a1).bind fun t117 => (if t117 < 0 then (some (-1)) else (some t117))) = some r := h
  clear h
  replace H := Option.bind_eq_some_iff.mp H
  obtain ⟨t117, A30, H⟩ := H
  replace H : (if t117 < 0 then (some (-1)) else (some t117)) = some r := H
  have A3 := Aside0.mk A30
  clear A30
  by_cases c4 : t117 < 0
  · rw [if_pos c4] at H
    have c4b0 : decide (t117 < 0) = true := decide_eq_true c4
    clear c4
    obtain rfl := Option.some.inj H
    go_enter Try.func12, Try.ntmps12
    go_wp2_with (first | ((with_reducible refine gate_dst (N := 2) rfl ?_); refine box_event ?hg (N := 2) ?hd (cs := #[.int .i64 a0_0, .slice A0_1 l0_1.length c0_1, .int .i64 a0_2]) (t := 24) ?hr ?_; (case hd => rfl); (case hg => rfl); (case hr => first | (go_simp; done) | (go_simp; rfl)); intro gb116 hg w5 hbox hb; have n0_ := Aside0.mk (below_step (by repeat (first | (with_reducible first | exact HB.out | apply below_alloc | apply pw_below_drewN | apply below_drew1) | exact HB.out)) hb); have n1_ := Aside0.mk (hbox); have n2_ := Aside0.mk ((by rw [hg]; exact (below_size (by repeat (first | (with_reducible first | exact HB.out | apply below_alloc | apply pw_below_drewN | apply below_drew1) | exact HB.out))) : w.heap.size ≤ gb116)); have n3_ := Aside0.mk ((by rw [hg]; exact (below_size (by repeat (first | (with_reducible first | exact HB.out | apply below_alloc | apply pw_below_drewN | apply below_drew1) | exact HB.out))) : w.heap.size ≤ gb116)); clear HB; have HB := n0_; have BK116 := n1_; have GW116 := n2_; have GE116 := n3_; clear n0_ n1_ n2_ n3_; clear hb hbox hg; have hcz6_0 : w5.cell? ⟨gb116, 0, none⟩ = some (.int .i64 a0_0) := (blk_cell BK116.out 0).trans rfl; have hcz6_1 : w5.cell? ⟨gb116, 1, none⟩ = some (.slice A0_1 l0_1.length c0_1) := (blk_cell BK116.out 1).trans rfl; have hcz6_2 : w5.cell? ⟨gb116, 2, none⟩ = some (.int .i64 a0_2) := (blk_cell BK116.out 2).trans rfl; have hfz6_0 := blk_frozen BK116.out 0; have hfz6_1 := blk_frozen BK116.out 1; have hfz6_2 := blk_frozen BK116.out 2) | ((with_reducible refine gate_callee (f := 29) rfl ?_); refine goesL_ (some 8) rfl rfl Try.func29 (by kernel_rfl) rfl #[.slice A0_1 l0_1.length c0_1, .int .i64 a1] rfl (by (try simp only [List.map_toArray, List.map_cons, List.map_nil]); first | done | rfl | (simp only [List.length_drop, List.length_take]; rfl)) ?_; (with_reducible refine (laws_heldPageS.calls k _ _ l0_1 a1 t117 _ ?side1 ?side2 A3.out).mono ?_); (case side1 => repeat (first | exact (Kd.C_below HR0_1.out HB.out) | (with_reducible refine Kd.C_alloc ?_ _) | (with_reducible refine Kd.C_drewN ?_ _) | (with_reducible refine Kd.C_drew ?_))); (case side2 => exact HC0_1.out); rintro e w' ⟨rfl, ⟨nd, rfl⟩⟩; refine ⟨_, rfl, ?_⟩))
    go_ret
    exact ⟨by first | rfl | (simp [errW_none, errW_some] <;> rfl) | (simp [*, errW_none, errW_some] <;> rfl), by repeat (first | (with_reducible first | exact HB.out | apply below_alloc | apply pw_below_drewN | apply below_drew1 | refine below_set ?_ GE116.out) | exact HB.out)⟩
  · rw [if_neg c4] at H
    have c4b0 : decide (t117 < 0) = false := decide_eq_false c4
    clear c4
    obtain rfl := Option.some.inj H
    go_enter Try.func12, Try.ntmps12
    go_wp2_with (first | ((with_reducible refine gate_dst (N := 2) rfl ?_); refine box_event ?hg (N := 2) ?hd (cs := #[.int .i64 a0_0, .slice A0_1 l0_1.length c0_1, .int .i64 a0_2]) (t := 24) ?hr ?_; (case hd => rfl); (case hg => rfl); (case hr => first | (go_simp; done) | (go_simp; rfl)); intro gb116 hg w7 hbox hb; have n0_ := Aside0.mk (below_step (by repeat (first | (with_reducible first | exact HB.out | apply below_alloc | apply pw_below_drewN | apply below_drew1) | exact HB.out)) hb); have n1_ := Aside0.mk (hbox); have n2_ := Aside0.mk ((by rw [hg]; exact (below_size (by repeat (first | (with_reducible first | exact HB.out | apply below_alloc | apply pw_below_drewN | apply below_drew1) | exact HB.out))) : w.heap.size ≤ gb116)); have n3_ := Aside0.mk ((by rw [hg]; exact (below_size (by repeat (first | (with_reducible first | exact HB.out | apply below_alloc | apply pw_below_drewN | apply below_drew1) | exact HB.out))) : w.heap.size ≤ gb116)); clear HB; have HB := n0_; have BK116 := n1_; have GW116 := n2_; have GE116 := n3_; clear n0_ n1_ n2_ n3_; clear hb hbox hg; have hcz8_0 : w7.cell? ⟨gb116, 0, none⟩ = some (.int .i64 a0_0) := (blk_cell BK116.out 0).trans rfl; have hcz8_1 : w7.cell? ⟨gb116, 1, none⟩ = some (.slice A0_1 l0_1.length c0_1) := (blk_cell BK116.out 1).trans rfl; have hcz8_2 : w7.cell? ⟨gb116, 2, none⟩ = some (.int .i64 a0_2) := (blk_cell BK116.out 2).trans rfl; have hfz8_0 := blk_frozen BK116.out 0; have hfz8_1 := blk_frozen BK116.out 1; have hfz8_2 := blk_frozen BK116.out 2) | ((with_reducible refine gate_callee (f := 29) rfl ?_); refine goesL_ (some 8) rfl rfl Try.func29 (by kernel_rfl) rfl #[.slice A0_1 l0_1.length c0_1, .int .i64 a1] rfl (by (try simp only [List.map_toArray, List.map_cons, List.map_nil]); first | done | rfl | (simp only [List.length_drop, List.length_take]; rfl)) ?_; (with_reducible refine (laws_heldPageS.calls k _ _ l0_1 a1 t117 _ ?side1 ?side2 A3.out).mono ?_); (case side1 => repeat (first | exact (Kd.C_below HR0_1.out HB.out) | (with_reducible refine Kd.C_alloc ?_ _) | (with_reducible refine Kd.C_drewN ?_ _) | (with_reducible refine Kd.C_drew ?_))); (case side2 => exact HC0_1.out); rintro e w' ⟨rfl, ⟨nd, rfl⟩⟩; refine ⟨_, rfl, ?_⟩))
    go_ret
    exact ⟨by first | rfl | (simp [errW_none, errW_some] <;> rfl) | (simp [*, errW_none, errW_some] <;> rfl), by repeat (first | (with_reducible first | exact HB.out | apply below_alloc | apply pw_below_drewN | apply below_drew1 | refine below_set ?_ GE116.out) | exact HB.out)⟩

/-! ### spec_SourceNew: function 8 -/
def spec_SourceNew.f (a0 : Int) : Option (Int × (List (S58)) × Int × Bool) := if a0 < 1 then (some (0, ([] : List (S58)), 0, false)) else (if a0 > 60000 then (some (0, ([] : List (S58)), 0, false)) else (some (a0, ([] : List (S58)), 0, true)))
set_option maxHeartbeats 8000000 in
set_option maxRecDepth 100000 in
theorem spec_SourceNew.calls (a0 : Int) (r1 : Int) (r2 : List (S58)) (r3 : Int) (r4 : Bool) (w : World) (h : spec_SourceNew.f a0 = some (r1, r2, r3, r4)) :
    Calls Try.prog 8 #[.int .i64 a0] w fun e w' => ∃ v1_ : Value, e = .returned (.tuple #[.agg #[.int .i64 r1, v1_, .int .i64 r3], .bool r4]) ∧ Kd.S k58 58 w' w.heap.size (fun _ => True) v1_ r2 ∧ Below w.heap.size w w' := by
  have hu24 := Try.underlying24
  have HB := Aside0.mk (Below.refl w.heap.size w)
  have H : (if a0 < 1 then (some (0, ([] : List (S58)), 0, false)) else (if a0 > 60000 then (some (0, ([] : List (S58)), 0, false)) else (some (a0, ([] : List (S58)), 0, true)))) = some (r1, r2, r3, r4) := h
  clear h
  by_cases c2 : a0 < 1
  · rw [if_pos c2] at H
    have c2b0 : decide (a0 < 1) = true := decide_eq_true c2
    clear c2
    simp only [Option.some.injEq, Prod.mk.injEq] at H
    obtain ⟨rfl, rfl, rfl, rfl⟩ := H
    go_enter Try.func8, Try.ntmps8
    go_wp2_with (first | ((with_reducible refine gate_dst (N := 2) rfl ?_); refine box_event ?hg (N := 2) ?hd (cs := #[.int .i64 0, .slice none 0 0, .int .i64 0]) (t := 24) ?hr ?_; (case hd => rfl); (case hg => rfl); (case hr => first | (go_simp; done) | (go_simp; rfl)); intro gb118 hg w3 hbox hb; have n0_ := Aside0.mk (below_step (by repeat (first | (with_reducible first | exact HB.out | apply below_alloc | apply pw_below_drewN | apply below_drew1) | exact HB.out)) hb); have n1_ := Aside0.mk (hbox); have n2_ := Aside0.mk ((by rw [hg]; exact (below_size (by repeat (first | (with_reducible first | exact HB.out | apply below_alloc | apply pw_below_drewN | apply below_drew1) | exact HB.out))) : w.heap.size ≤ gb118)); have n3_ := Aside0.mk ((by rw [hg]; exact (below_size (by repeat (first | (with_reducible first | exact HB.out | apply below_alloc | apply pw_below_drewN | apply below_drew1) | exact HB.out))) : w.heap.size ≤ gb118)); clear HB; have HB := n0_; have BK118 := n1_; have GW118 := n2_; have GE118 := n3_; clear n0_ n1_ n2_ n3_; clear hb hbox hg; have hcz4_0 : w3.cell? ⟨gb118, 0, none⟩ = some (.int .i64 0) := (blk_cell BK118.out 0).trans rfl; have hcz4_1 : w3.cell? ⟨gb118, 1, none⟩ = some (.slice none 0 0) := (blk_cell BK118.out 1).trans rfl; have hcz4_2 : w3.cell? ⟨gb118, 2, none⟩ = some (.int .i64 0) := (blk_cell BK118.out 2).trans rfl; have hfz4_0 := blk_frozen BK118.out 0; have hfz4_1 := blk_frozen BK118.out 1; have hfz4_2 := blk_frozen BK118.out 2))
    refine bodyPost_ret (results_ct rfl _ _ gb118 24 #[.int .i64 0, .slice none 0 0, .int .i64 0] (0, 0) _ rfl (by (with_reducible repeat (first | refine blk_drewN ?_ _ | refine blk_drew ?_ | refine blk_alloc ?_ _)); refine blk_put (cs := #[.int .i64 0, .slice none 0 0, .int .i64 0]) ?_ 2 _ rfl; (with_reducible repeat (first | refine blk_drewN ?_ _ | refine blk_drew ?_ | refine blk_alloc ?_ _)); refine blk_put (cs := #[.int .i64 0, .slice none 0 0, .int .i64 0]) ?_ 1 _ rfl; (with_reducible repeat (first | refine blk_drewN ?_ _ | refine blk_drew ?_ | refine blk_alloc ?_ _)); refine blk_put (cs := #[.int .i64 0, .slice none 0 0, .int .i64 0]) ?_ 0 _ rfl; (with_reducible repeat (first | refine blk_drewN ?_ _ | refine blk_drew ?_ | refine blk_alloc ?_ _)); exact BK118.out) Try.underlying24 rfl (by kernel_rfl)) rfl ?_
    exact ⟨_, by first | rfl | (simp [errW_none, errW_some] <;> rfl) | (simp [*, errW_none, errW_some] <;> rfl), by first | exact Kd.S_nil _ _ _ _ _ | exact Kd.N_nil _ _ _ _ _ | exact Kd.V_nil _ _ _ _ _ | exact Kd.Q_nil _ _ _ _ _ | exact Kd.R_nil _ _ _ _ _, by repeat (first | (with_reducible first | exact HB.out | apply below_alloc | apply pw_below_drewN | apply below_drew1 | refine below_set ?_ GE118.out) | exact HB.out)⟩
  · rw [if_neg c2] at H
    have c2b0 : decide (a0 < 1) = false := decide_eq_false c2
    clear c2
    by_cases c5 : a0 > 60000
    · rw [if_pos c5] at H
      have c5b0 : decide (60000 < a0) = true := decide_eq_true c5
      clear c5
      simp only [Option.some.injEq, Prod.mk.injEq] at H
      obtain ⟨rfl, rfl, rfl, rfl⟩ := H
      go_enter Try.func8, Try.ntmps8
      go_wp2_with (first | ((with_reducible refine gate_dst (N := 2) rfl ?_); refine box_event ?hg (N := 2) ?hd (cs := #[.int .i64 0, .slice none 0 0, .int .i64 0]) (t := 24) ?hr ?_; (case hd => rfl); (case hg => rfl); (case hr => first | (go_simp; done) | (go_simp; rfl)); intro gb118 hg w6 hbox hb; have n0_ := Aside0.mk (below_step (by repeat (first | (with_reducible first | exact HB.out | apply below_alloc | apply pw_below_drewN | apply below_drew1) | exact HB.out)) hb); have n1_ := Aside0.mk (hbox); have n2_ := Aside0.mk ((by rw [hg]; exact (below_size (by repeat (first | (with_reducible first | exact HB.out | apply below_alloc | apply pw_below_drewN | apply below_drew1) | exact HB.out))) : w.heap.size ≤ gb118)); have n3_ := Aside0.mk ((by rw [hg]; exact (below_size (by repeat (first | (with_reducible first | exact HB.out | apply below_alloc | apply pw_below_drewN | apply below_drew1) | exact HB.out))) : w.heap.size ≤ gb118)); clear HB; have HB := n0_; have BK118 := n1_; have GW118 := n2_; have GE118 := n3_; clear n0_ n1_ n2_ n3_; clear hb hbox hg; have hcz7_0 : w6.cell? ⟨gb118, 0, none⟩ = some (.int .i64 0) := (blk_cell BK118.out 0).trans rfl; have hcz7_1 : w6.cell? ⟨gb118, 1, none⟩ = some (.slice none 0 0) := (blk_cell BK118.out 1).trans rfl; have hcz7_2 : w6.cell? ⟨gb118, 2, none⟩ = some (.int .i64 0) := (blk_cell BK118.out 2).trans rfl; have hfz7_0 := blk_frozen BK118.out 0; have hfz7_1 := blk_frozen BK118.out 1; have hfz7_2 := blk_frozen BK118.out 2))
      refine bodyPost_ret (results_ct rfl _ _ gb118 24 #[.int .i64 0, .slice none 0 0, .int .i64 0] (0, 0) _ rfl (by (with_reducible repeat (first | refine blk_drewN ?_ _ | refine blk_drew ?_ | refine blk_alloc ?_ _)); refine blk_put (cs := #[.int .i64 0, .slice none 0 0, .int .i64 0]) ?_ 2 _ rfl; (with_reducible repeat (first | refine blk_drewN ?_ _ | refine blk_drew ?_ | refine blk_alloc ?_ _)); refine blk_put (cs := #[.int .i64 0, .slice none 0 0, .int .i64 0]) ?_ 1 _ rfl; (with_reducible repeat (first | refine blk_drewN ?_ _ | refine blk_drew ?_ | refine blk_alloc ?_ _)); refine blk_put (cs := #[.int .i64 0, .slice none 0 0, .int .i64 0]) ?_ 0 _ rfl; (with_reducible repeat (first | refine blk_drewN ?_ _ | refine blk_drew ?_ | refine blk_alloc ?_ _)); exact BK118.out) Try.underlying24 rfl (by kernel_rfl)) rfl ?_
      exact ⟨_, by first | rfl | (simp [errW_none, errW_some] <;> rfl) | (simp [*, errW_none, errW_some] <;> rfl), by first | exact Kd.S_nil _ _ _ _ _ | exact Kd.N_nil _ _ _ _ _ | exact Kd.V_nil _ _ _ _ _ | exact Kd.Q_nil _ _ _ _ _ | exact Kd.R_nil _ _ _ _ _, by repeat (first | (with_reducible first | exact HB.out | apply below_alloc | apply pw_below_drewN | apply below_drew1 | refine below_set ?_ GE118.out) | exact HB.out)⟩
    · rw [if_neg c5] at H
      have c5b0 : decide (60000 < a0) = false := decide_eq_false c5
      clear c5
      simp only [Option.some.injEq, Prod.mk.injEq] at H
      obtain ⟨rfl, rfl, rfl, rfl⟩ := H
      go_enter Try.func8, Try.ntmps8
      go_wp2_with (first | ((with_reducible refine gate_dst (N := 2) rfl ?_); refine box_event ?hg (N := 2) ?hd (cs := #[.int .i64 0, .slice none 0 0, .int .i64 0]) (t := 24) ?hr ?_; (case hd => rfl); (case hg => rfl); (case hr => first | (go_simp; done) | (go_simp; rfl)); intro gb118 hg w8 hbox hb; have n0_ := Aside0.mk (below_step (by repeat (first | (with_reducible first | exact HB.out | apply below_alloc | apply pw_below_drewN | apply below_drew1) | exact HB.out)) hb); have n1_ := Aside0.mk (hbox); have n2_ := Aside0.mk ((by rw [hg]; exact (below_size (by repeat (first | (with_reducible first | exact HB.out | apply below_alloc | apply pw_below_drewN | apply below_drew1) | exact HB.out))) : w.heap.size ≤ gb118)); have n3_ := Aside0.mk ((by rw [hg]; exact (below_size (by repeat (first | (with_reducible first | exact HB.out | apply below_alloc | apply pw_below_drewN | apply below_drew1) | exact HB.out))) : w.heap.size ≤ gb118)); clear HB; have HB := n0_; have BK118 := n1_; have GW118 := n2_; have GE118 := n3_; clear n0_ n1_ n2_ n3_; clear hb hbox hg; have hcz9_0 : w8.cell? ⟨gb118, 0, none⟩ = some (.int .i64 0) := (blk_cell BK118.out 0).trans rfl; have hcz9_1 : w8.cell? ⟨gb118, 1, none⟩ = some (.slice none 0 0) := (blk_cell BK118.out 1).trans rfl; have hcz9_2 : w8.cell? ⟨gb118, 2, none⟩ = some (.int .i64 0) := (blk_cell BK118.out 2).trans rfl; have hfz9_0 := blk_frozen BK118.out 0; have hfz9_1 := blk_frozen BK118.out 1; have hfz9_2 := blk_frozen BK118.out 2))
      refine bodyPost_ret (results_ct rfl _ _ gb118 24 #[.int .i64 a0, .slice none 0 0, .int .i64 0] (0, 0) _ rfl (by (with_reducible repeat (first | refine blk_drewN ?_ _ | refine blk_drew ?_ | refine blk_alloc ?_ _)); refine blk_put (cs := #[.int .i64 a0, .slice none 0 0, .int .i64 0]) ?_ 2 _ rfl; (with_reducible repeat (first | refine blk_drewN ?_ _ | refine blk_drew ?_ | refine blk_alloc ?_ _)); refine blk_put (cs := #[.int .i64 a0, .slice none 0 0, .int .i64 0]) ?_ 1 _ rfl; (with_reducible repeat (first | refine blk_drewN ?_ _ | refine blk_drew ?_ | refine blk_alloc ?_ _)); refine blk_put (cs := #[.int .i64 0, .slice none 0 0, .int .i64 0]) ?_ 0 _ rfl; (with_reducible repeat (first | refine blk_drewN ?_ _ | refine blk_drew ?_ | refine blk_alloc ?_ _)); exact BK118.out) Try.underlying24 rfl (by kernel_rfl)) rfl ?_
      exact ⟨_, by first | rfl | (simp [errW_none, errW_some] <;> rfl) | (simp [*, errW_none, errW_some] <;> rfl), by first | exact Kd.S_nil _ _ _ _ _ | exact Kd.N_nil _ _ _ _ _ | exact Kd.V_nil _ _ _ _ _ | exact Kd.Q_nil _ _ _ _ _ | exact Kd.R_nil _ _ _ _ _, by repeat (first | (with_reducible first | exact HB.out | apply below_alloc | apply pw_below_drewN | apply below_drew1 | refine below_set ?_ GE118.out) | exact HB.out)⟩

/-! ### laws_FnExactSourceNew: function 3 -/
def srcOk (a : Int) : Bool := decide (1 ≤ a ∧ a ≤ 60000)
theorem within_src (a : Int) : impl_within.f a 1 60000 = some (srcOk a) := by
  unfold impl_within.f srcOk
  by_cases h : a ≥ 1
  · rw [if_pos h]
    congr 1
    rw [Bool.eq_iff_iff, decide_eq_true_eq, decide_eq_true_eq]
    omega
  · rw [if_neg h]
    congr 1
    symm
    rw [decide_eq_false_iff_not]
    omega
theorem within_zero : impl_within.f 0 0 4294967295 = some true := by decide
set_option maxHeartbeats 4000000 in
set_option maxRecDepth 100000 in
theorem SourceOk_e (a : Int) (r : Bool) (hr : srcOk a = r) (w : World) :
    Calls Try.prog 16 #[.agg #[.int .i64 a, .slice none 0 0, .int .i64 0]] w fun e w' => e = .returned (.bool r) ∧ Below w.heap.size w w' := by
  subst hr
  have hu := Try.underlying24
  have HB := Aside0.mk (below_alloc (Below.refl w.heap.size w) (.cells #[.int .i64 a, .slice none 0 0, .int .i64 0] 24))
  have HH := Aside0.mk (heap_alloc_new w (.cells #[.int .i64 a, .slice none 0 0, .int .i64 0] 24))
  have HN := Aside0.mk (show w.heap.size ≤ w.heap.size from Nat.le_refl _)
  go_enter Try.func16, Try.ntmps16
  go_wp2
  generalize (w.alloc (.cells #[.int .i64 a, .slice none 0 0, .int .i64 0] 24)) = W0 at HB HH ⊢
  obtain ⟨g, hg⟩ : ∃ g, w.heap.size = g := ⟨_, rfl⟩
  rw [hg] at HH ⊢
  have c0 : W0.cell? ⟨g, 0, none⟩ = some (.int .i64 a) := (blk_cell HH.out 0).trans rfl
  have c1 : W0.cell? ⟨g, 1, none⟩ = some (.slice none 0 0) := (blk_cell HH.out 1).trans rfl
  have c2 : W0.cell? ⟨g, 2, none⟩ = some (.int .i64 0) := (blk_cell HH.out 2).trans rfl
  go_loopg [8] 0 (fun kq v8 wr => v8 = .int .i64 0 ∧ wr = W0)
  case atStart => exact ⟨rfl, rfl⟩
  case round =>
    obtain ⟨rfl, rfl⟩ := hrel
    have q1 := within_src a
    have q2 := within_zero
    by_cases ho : srcOk a = true
    · rw [ho] at q1
      go_wp2_with (go_at_call 36; first | (with_reducible refine (impl_within.calls a 1 60000 true _ q1).mono ?_; rintro e w' ⟨rfl, ⟨nd, rfl⟩⟩) | (with_reducible refine (impl_within.calls 0 0 4294967295 true _ q2).mono ?_; rintro e w' ⟨rfl, ⟨nd, rfl⟩⟩))
      go_ret
      exact ⟨by first | rfl | (rw [ho]; rfl), pw_below_drewN HB.out _⟩
    · have ho' : srcOk a = false := by simpa using ho
      rw [ho'] at q1
      go_wp2_with (go_at_call 36; (with_reducible refine (impl_within.calls a 1 60000 false _ q1).mono ?_; rintro e w' ⟨rfl, ⟨nd, rfl⟩⟩))
      go_ret
      exact ⟨by first | rfl | (rw [ho']; rfl), pw_below_drewN HB.out _⟩
theorem sn_blocks {w w' : World} {o1 o2 : Obj} (hb : Below ((w.alloc o1).alloc o2).heap.size ((w.alloc o1).alloc o2) w') : w'.heap[w.heap.size]? = some o1 ∧ w'.heap[w.heap.size + 1]? = some o2 ∧ Below w.heap.size w w' := by
  have h1 := heap_alloc_new w o1
  have h2 := heap_alloc_new (w.alloc o1) o2
  have h3 : ((w.alloc o1).alloc o2).heap[w.heap.size]? = some o1 := ((below_alloc (Below.refl _ _) _ : Below (w.alloc o1).heap.size _ _).block w.heap.size (blk_lt h1)).trans h1
  rw [World.size_alloc] at h2
  exact ⟨(hb.block _ (blk_lt h3)).trans h3, (hb.block _ (blk_lt h2)).trans h2, below_step (below_alloc (below_alloc (Below.refl _ _) _) _) hb⟩
set_option maxHeartbeats 4000000 in
set_option maxRecDepth 100000 in
theorem SourceNew_e (a : Int) (w : World) :
    Calls Try.prog 9 #[.int .i64 a] w fun e w' => e = .returned (.tuple #[.agg #[.int .i64 (if srcOk a = true then a else 0), .slice none 0 0, .int .i64 0], .bool (srcOk a)]) ∧ Below w.heap.size w w' := by
  have hu := Try.underlying24
  go_enter Try.func9, Try.ntmps9
  by_cases ho : srcOk a = true
  · go_wp2_with (go_at_call 16; refine (SourceOk_e a true ho _).mono ?_; rintro e w' ⟨rfl, hb⟩; have HS := Aside0.mk (sn_blocks hb); clear hb; have z0 := (blk_cell HS.out.1 0).trans rfl; have z1 := (blk_cell HS.out.1 1).trans rfl; have z2 := (blk_cell HS.out.1 2).trans rfl; have f0 := blk_frozen HS.out.1 0; have f1 := blk_frozen HS.out.1 1; have f2 := blk_frozen HS.out.1 2; have y0 := (blk_cell HS.out.2.1 0).trans rfl; have y1 := (blk_cell HS.out.2.1 1).trans rfl; have y2 := (blk_cell HS.out.2.1 2).trans rfl)
    refine bodyPost_ret (results_ct rfl _ _ w.heap.size 24 #[.int .i64 a, .slice none 0 0, .int .i64 0] (0, 0) _ rfl (by refine blk_put (cs := #[.int .i64 a, .slice none 0 0, .int .i64 0]) ?_ 2 _ rfl; refine blk_put (cs := #[.int .i64 a, .slice none 0 0, .int .i64 0]) ?_ 1 _ rfl; refine blk_put (cs := #[.int .i64 0, .slice none 0 0, .int .i64 0]) ?_ 0 _ rfl; exact HS.out.1) Try.underlying24 rfl (by kernel_rfl)) rfl ?_
    exact ⟨by first | rfl | (simp only [ho]; rfl) | (simp [ho]; done), below_set (below_set (below_set HS.out.2.2 (Nat.le_refl _)) (Nat.le_refl _)) (Nat.le_refl _)⟩
  · have ho' : srcOk a = false := by simpa using ho
    go_wp2_with (go_at_call 16; refine (SourceOk_e a false ho' _).mono ?_; rintro e w' ⟨rfl, hb⟩; have HS := Aside0.mk (sn_blocks hb); clear hb; have z0 := (blk_cell HS.out.1 0).trans rfl; have z1 := (blk_cell HS.out.1 1).trans rfl; have z2 := (blk_cell HS.out.1 2).trans rfl; have f0 := blk_frozen HS.out.1 0; have f1 := blk_frozen HS.out.1 1; have f2 := blk_frozen HS.out.1 2; have y0 := (blk_cell HS.out.2.1 0).trans rfl; have y1 := (blk_cell HS.out.2.1 1).trans rfl; have y2 := (blk_cell HS.out.2.1 2).trans rfl)
    refine bodyPost_ret (results_ct rfl _ _ w.heap.size 24 #[.int .i64 0, .slice none 0 0, .int .i64 0] (0, 0) _ rfl (by refine blk_put (cs := #[.int .i64 0, .slice none 0 0, .int .i64 0]) ?_ 2 _ rfl; refine blk_put (cs := #[.int .i64 0, .slice none 0 0, .int .i64 0]) ?_ 1 _ rfl; refine blk_put (cs := #[.int .i64 0, .slice none 0 0, .int .i64 0]) ?_ 0 _ rfl; exact HS.out.1) Try.underlying24 rfl (by kernel_rfl)) rfl ?_
    exact ⟨by first | rfl | (simp only [ho']; rfl) | (simp [ho']; done), below_set (below_set (below_set HS.out.2.2 (Nat.le_refl _)) (Nat.le_refl _)) (Nat.le_refl _)⟩
set_option maxHeartbeats 4000000 in
set_option maxRecDepth 100000 in
theorem markPageS_e (m : Int) (w : World) :
    Calls Try.prog 28 #[.slice none 0 0, .int .i64 m] w fun e w' => e = .returned (.int .i64 m) ∧ Below w.heap.size w w' := by
  have HB := Aside0.mk (Below.refl w.heap.size w)
  go_enter Try.func28, Try.ntmps28
  go_wp2
  go_loopg [1, 5] 0 (fun kq v1 v5 wr => v1 = .int .i64 m ∧ v5 = .int .i64 0 ∧ wr = w)
  case atStart => exact ⟨rfl, rfl, rfl⟩
  case round =>
    obtain ⟨rfl, rfl, rfl⟩ := hrel
    go_wp2
    go_ret
    exact ⟨rfl, HB.out⟩
set_option maxHeartbeats 4000000 in
set_option maxRecDepth 100000 in
theorem markSource_e (a m : Int) (w : World) :
    Calls Try.prog 11 #[.agg #[.int .i64 a, .slice none 0 0, .int .i64 0], .int .i64 m] w fun e w' => e = .returned (.int .i64 m) ∧ Below w.heap.size w w' := by
  have hu := Try.underlying24
  have HB := Aside0.mk (below_alloc (Below.refl w.heap.size w) (.cells #[.int .i64 a, .slice none 0 0, .int .i64 0] 24))
  go_enter Try.func11, Try.ntmps11
  go_wp2_with (go_at_call 28; refine (markPageS_e m _).mono ?_; rintro e w' ⟨rfl, hb⟩)
  go_ret
  exact ⟨rfl, below_step HB.out hb⟩
set_option maxHeartbeats 4000000 in
set_option maxRecDepth 100000 in
theorem SpecNew_e (a : Int) (w : World) :
    Calls Try.prog 8 #[.int .i64 a] w fun e w' => e = .returned (.tuple #[.agg #[.int .i64 (if srcOk a = true then a else 0), .slice none 0 0, .int .i64 0], .bool (srcOk a)]) ∧ Below w.heap.size w w' := by
  have hu := Try.underlying24
  go_enter Try.func8, Try.ntmps8
  by_cases h1 : a < 1
  · have b1 : decide (a < 1) = true := decide_eq_true h1
    have ho : srcOk a = false := decide_eq_false (by omega)
    go_wp2
    all_goals (refine bodyPost_ret (results_ct rfl _ _ w.heap.size 24 #[.int .i64 0, .slice none 0 0, .int .i64 0] (0, 0) _ rfl (heap_alloc_new w _) Try.underlying24 rfl (by kernel_rfl)) rfl ?_; exact ⟨rfl, below_alloc (Below.refl _ _) _⟩)
  · have b1 : decide (a < 1) = false := decide_eq_false h1
    by_cases h2 : 60000 < a
    · have b2 : decide (60000 < a) = true := decide_eq_true h2
      have ho : srcOk a = false := decide_eq_false (by omega)
      go_wp2
      all_goals (refine bodyPost_ret (results_ct rfl _ _ w.heap.size 24 #[.int .i64 0, .slice none 0 0, .int .i64 0] (0, 0) _ rfl (heap_alloc_new w _) Try.underlying24 rfl (by kernel_rfl)) rfl ?_; exact ⟨rfl, below_alloc (Below.refl _ _) _⟩)
    · have b2 : decide (60000 < a) = false := decide_eq_false h2
      have ho : srcOk a = true := decide_eq_true (by omega)
      go_wp2
      all_goals (refine bodyPost_ret (results_ct rfl _ _ w.heap.size 24 #[.int .i64 a, .slice none 0 0, .int .i64 0] (0, 0) _ rfl (heap_alloc_new w _) Try.underlying24 rfl (by kernel_rfl)) rfl ?_; exact ⟨rfl, below_alloc (Below.refl _ _) _⟩)
def SN (w W : World) (g3 g5 : Nat) (v : Int) : Prop := W.heap[g3]? = some (.cells #[.int .i64 v, .slice none 0 0, .int .i64 0] 24) ∧ W.heap[g5]? = some (.cells #[.int .i64 v, .slice none 0 0, .int .i64 0] 24) ∧ Below w.heap.size w W
theorem SN.below {w W W' : World} {g3 g5 : Nat} {v : Int} (h : SN w W g3 g5 v) (hb : Below W.heap.size W W') : SN w W' g3 g5 v := ⟨(hb.block _ (blk_lt h.1)).trans h.1, (hb.block _ (blk_lt h.2.1)).trans h.2.1, below_step h.2.2 hb⟩
theorem Csn {w : World} : Kd.C k58 w none ([] : List S58).length [] := Kd.C_nil _ _
theorem eq_e (v : Int) : laws_eqSource.f 2 v [] 0 v [] 0 = some true := by simp [laws_eqSource.f, laws_eqPageS.f, laws_eqPageS.l0]
theorem held_e (v : Int) : laws_heldSource.f 2 v [] 0 1 = some 1 := by simp [laws_heldSource.f, laws_heldPageS.f, laws_heldPageS.l0]
set_option maxHeartbeats 4000000 in
set_option maxRecDepth 100000 in
theorem sn_walk (a v : Int) (r : Bool) (h8 : ∀ w, Calls Try.prog 8 #[.int .i64 a] w fun e w' => e = .returned (.tuple #[.agg #[.int .i64 v, .slice none 0 0, .int .i64 0], .bool r]) ∧ Below w.heap.size w w')
    (h9 : ∀ w, Calls Try.prog 9 #[.int .i64 a] w fun e w' => e = .returned (.tuple #[.agg #[.int .i64 v, .slice none 0 0, .int .i64 0], .bool r]) ∧ Below w.heap.size w w') (w : World) :
    Calls Try.prog 3 #[.int .i64 a] w fun e w' => e = .returned (.bool true) ∧ Below w.heap.size w w' := by
  have hu := Try.underlying24
  go_enter Try.func3, Try.ntmps3
  go_upto_region 2 with (go_at_call 8; refine (h8 _).mono ?_; rintro e w1 ⟨rfl, hb1⟩)
  have HB1 := Aside0.mk (below_alloc hb1 (.cells #[.int .i64 v, .slice none 0 0, .int .i64 0] 24))
  have HK1 := Aside0.mk (heap_alloc_new w1 (.cells #[.int .i64 v, .slice none 0 0, .int .i64 0] 24))
  clear hb1
  generalize hW1 : w1.alloc (.cells #[.int .i64 v, .slice none 0 0, .int .i64 0] 24) = W1 at HB1 HK1 ⊢
  clear hW1
  generalize w1.heap.size = g3 at HK1 ⊢
  go_upto_region 3 with (go_at_call 9; refine (h9 _).mono ?_; rintro e w2 ⟨rfl, hb2⟩)
  have HS := Aside0.mk (show SN w (w2.alloc (.cells #[.int .i64 v, .slice none 0 0, .int .i64 0] 24)) g3 w2.heap.size v from ⟨((below_alloc (Below.refl _ _) _ : Below w2.heap.size w2 (w2.alloc (.cells #[.int .i64 v, .slice none 0 0, .int .i64 0] 24))).block _ (blk_lt ((hb2.block _ (blk_lt HK1.out)).trans HK1.out))).trans ((hb2.block _ (blk_lt HK1.out)).trans HK1.out), heap_alloc_new w2 _, below_alloc (below_step HB1.out hb2) _⟩)
  clear hb2 HB1 HK1
  generalize w2.alloc (.cells #[.int .i64 v, .slice none 0 0, .int .i64 0] 24) = W2 at HS ⊢
  generalize w2.heap.size = g5 at HS ⊢
  have z0 := (blk_cell HS.out.1 0).trans rfl
  have z1 := (blk_cell HS.out.1 1).trans rfl
  have z2 := (blk_cell HS.out.1 2).trans rfl
  have y0 := (blk_cell HS.out.2.1 0).trans rfl
  have y1 := (blk_cell HS.out.2.1 1).trans rfl
  have y2 := (blk_cell HS.out.2.1 2).trans rfl
  go_upto_region 13 with (first | (go_at_call 10; refine (laws_eqSource.calls 2 v none 0 [] 0 v none 0 [] 0 true _ Csn (Nat.le_refl _) Csn (Nat.le_refl _) (eq_e v)).mono ?_; rintro e w' ⟨rfl, hb⟩; have HS2 := Aside0.mk (HS.out.below hb); clear hb; clear z0 z1 z2 y0 y1 y2; clear HS; have HS := HS2; clear HS2; have z0 := (blk_cell HS.out.1 0).trans rfl; have z1 := (blk_cell HS.out.1 1).trans rfl; have z2 := (blk_cell HS.out.1 2).trans rfl; have y0 := (blk_cell HS.out.2.1 0).trans rfl; have y1 := (blk_cell HS.out.2.1 1).trans rfl; have y2 := (blk_cell HS.out.2.1 2).trans rfl) | (go_at_call 11; refine (markSource_e v 1 _).mono ?_; rintro e w' ⟨rfl, hb⟩; have HS2 := Aside0.mk (HS.out.below hb); clear hb; clear z0 z1 z2 y0 y1 y2; clear HS; have HS := HS2; clear HS2; have z0 := (blk_cell HS.out.1 0).trans rfl; have z1 := (blk_cell HS.out.1 1).trans rfl; have z2 := (blk_cell HS.out.1 2).trans rfl; have y0 := (blk_cell HS.out.2.1 0).trans rfl; have y1 := (blk_cell HS.out.2.1 1).trans rfl; have y2 := (blk_cell HS.out.2.1 2).trans rfl) | (go_at_call 12; refine (laws_heldSource.calls 2 v none 0 [] 0 1 1 _ Csn (Nat.le_refl _) (held_e v)).mono ?_; rintro e w' ⟨rfl, hb⟩; have HS2 := Aside0.mk (HS.out.below hb); clear hb; clear z0 z1 z2 y0 y1 y2; clear HS; have HS := HS2; clear HS2; have z0 := (blk_cell HS.out.1 0).trans rfl; have z1 := (blk_cell HS.out.1 1).trans rfl; have z2 := (blk_cell HS.out.1 2).trans rfl; have y0 := (blk_cell HS.out.2.1 0).trans rfl; have y1 := (blk_cell HS.out.2.1 1).trans rfl; have y2 := (blk_cell HS.out.2.1 2).trans rfl))
  go_upto_region 14 with (go_at_call 9; refine (h9 _).mono ?_; rintro e w2 ⟨rfl, hb2⟩)
  have HT := Aside0.mk ((HS.out.below hb2).below (below_alloc (Below.refl _ _) (.cells #[.int .i64 v, .slice none 0 0, .int .i64 0] 24)))
  have HK := Aside0.mk (heap_alloc_new w2 (.cells #[.int .i64 v, .slice none 0 0, .int .i64 0] 24))
  clear z0 z1 z2 y0 y1 y2
  clear hb2 HS
  have HS := HT
  clear HT
  generalize w2.alloc (.cells #[.int .i64 v, .slice none 0 0, .int .i64 0] 24) = W4 at HS HK ⊢
  generalize w2.heap.size = g9 at HK ⊢
  have z0 := (blk_cell HS.out.1 0).trans rfl
  have z1 := (blk_cell HS.out.1 1).trans rfl
  have z2 := (blk_cell HS.out.1 2).trans rfl
  have y0 := (blk_cell HS.out.2.1 0).trans rfl
  have y1 := (blk_cell HS.out.2.1 1).trans rfl
  have y2 := (blk_cell HS.out.2.1 2).trans rfl
  have x0 := (blk_cell HK.out 0).trans rfl
  have x1 := (blk_cell HK.out 1).trans rfl
  have x2 := (blk_cell HK.out 2).trans rfl
  go_wp2_with (first | (go_at_call 10; refine (laws_eqSource.calls 2 v none 0 [] 0 v none 0 [] 0 true _ Csn (Nat.le_refl _) Csn (Nat.le_refl _) (eq_e v)).mono ?_; rintro e w' ⟨rfl, hb⟩; have HS2 := Aside0.mk (HS.out.below hb); clear hb; clear z0 z1 z2 y0 y1 y2; clear HS; have HS := HS2; clear HS2; have z0 := (blk_cell HS.out.1 0).trans rfl; have z1 := (blk_cell HS.out.1 1).trans rfl; have z2 := (blk_cell HS.out.1 2).trans rfl; have y0 := (blk_cell HS.out.2.1 0).trans rfl; have y1 := (blk_cell HS.out.2.1 1).trans rfl; have y2 := (blk_cell HS.out.2.1 2).trans rfl) | (go_at_call 11; refine (markSource_e v 1 _).mono ?_; rintro e w' ⟨rfl, hb⟩; have HS2 := Aside0.mk (HS.out.below hb); clear hb; clear z0 z1 z2 y0 y1 y2; clear HS; have HS := HS2; clear HS2; have z0 := (blk_cell HS.out.1 0).trans rfl; have z1 := (blk_cell HS.out.1 1).trans rfl; have z2 := (blk_cell HS.out.1 2).trans rfl; have y0 := (blk_cell HS.out.2.1 0).trans rfl; have y1 := (blk_cell HS.out.2.1 1).trans rfl; have y2 := (blk_cell HS.out.2.1 2).trans rfl) | (go_at_call 12; refine (laws_heldSource.calls 2 v none 0 [] 0 1 1 _ Csn (Nat.le_refl _) (held_e v)).mono ?_; rintro e w' ⟨rfl, hb⟩; have HS2 := Aside0.mk (HS.out.below hb); clear hb; clear z0 z1 z2 y0 y1 y2; clear HS; have HS := HS2; clear HS2; have z0 := (blk_cell HS.out.1 0).trans rfl; have z1 := (blk_cell HS.out.1 1).trans rfl; have z2 := (blk_cell HS.out.1 2).trans rfl; have y0 := (blk_cell HS.out.2.1 0).trans rfl; have y1 := (blk_cell HS.out.2.1 1).trans rfl; have y2 := (blk_cell HS.out.2.1 2).trans rfl))
  go_ret
  exact ⟨rfl, HS.out.2.2⟩
def laws_FnExactSourceNew.f (k : Nat) (a0 : Int) : Option Bool := some true
theorem laws_FnExactSourceNew.mono : ∀ a0 k, LeO (laws_FnExactSourceNew.f k a0) (laws_FnExactSourceNew.f (k + 1) a0) := fun _ _ _ h => h
theorem laws_FnExactSourceNew.calls (k : Nat) (a0 : Int) (r : Bool) (w : World) (h : laws_FnExactSourceNew.f k a0 = some r) :
    Calls Try.prog 3 #[.int .i64 a0] w fun e w' => e = .returned (.bool r) ∧ Below w.heap.size w w' := by
  obtain rfl := Option.some.inj h
  exact sn_walk a0 _ _ (fun w => SpecNew_e a0 w) (fun w => SourceNew_e a0 w) w

end Go.Proofs.Ytbjkaapkmemojaa.PFnExactSourceNew
