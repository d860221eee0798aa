-- Written by a program of this session, out of the translation.
import Derived.Test.YtjbhflicehnocaaPFnTagx0
import Derived.Test.YtjbhflicehnocaaPFnTagx1
import Derived.Test.YtjbhflicehnocaaPFnTagx2
import Derived.Test.YtjbhflicehnocaaPFnTagx3
import Derived.Test.YtjbhflicehnocaaPFnTagx4
namespace Go.Proofs.Ytjbhflicehnocaa.PFnTag
open Go.RowKit Go.Proofs.YtjbhflicehnocaaW.PrintWords Go.Proofs.YtjbhflicehnocaaW.PrintLast Go.Proofs.YtjbhflicehnocaaW.PrintMore
attribute [local go_sem] max2_int min2_int max_two min_two max_three min_three max_four min_four   -- for this text's walks alone
set_option linter.unusedVariables false
set_option linter.unusedSimpArgs false

/-! ### impl_isPrint: function 71 -/
def impl_isPrint.l0 : Nat → ByteArray → Int → Int → Option (Bool)
  | 0, _, _, _ => none
  | k + 1, x0, x5, x6 => if x6 < x5 then (if 0 ≤ x6 then (if x6 < (x0.size : Int) then (if (bt x0 x6) < 33 then (some false) else (if (bt x0 x6) > 126 then (some false) else (impl_isPrint.l0 k x0 x5 (wrap64 (x6 + 1))))) else (none)) else (none)) else (some true)
def impl_isPrint.f (k : Nat) (a0 : ByteArray) : Option (Bool) := impl_isPrint.l0 k a0 (a0.size : Int) 0
theorem impl_isPrint.mono_l : ∀ k, (∀ y0 y1 y2, LeO (impl_isPrint.l0 k y0 y1 y2) (impl_isPrint.l0 (k + 1) y0 y1 y2))
  | 0 => fun _ _ _ r h => by simp [impl_isPrint.l0] at h
  | k + 1 => by
    have ih0 := impl_isPrint.mono_l k
    · intro y0 y1 y2
      unfold impl_isPrint.l0
      repeat' first
      | (with_reducible exact ih0 _ _ _)
      | (with_reducible exact LeO.refl _)
      | (with_reducible exact LeO.none _)
      | (with_reducible refine LeO.ite ?_ ?_)
      | (with_reducible refine LeO.bind ?_ (fun _ => ?_))
      | exact ih0 _ _ _
      | exact LeO.none _
      | refine LeO.ite ?_ ?_
      | refine LeO.bind ?_ (fun _ => ?_)
theorem impl_isPrint.mono : ∀ a0 k, LeO (impl_isPrint.f k a0) (impl_isPrint.f (k + 1) a0) := by
  intro a0 k
  have ih0 := impl_isPrint.mono_l k
  unfold impl_isPrint.f
  repeat' first
      | (with_reducible exact ih0 _ _ _)
      | (with_reducible exact LeO.refl _)
      | (with_reducible exact LeO.none _)
      | (with_reducible refine LeO.ite ?_ ?_)
      | (with_reducible refine LeO.bind ?_ (fun _ => ?_))
      | exact ih0 _ _ _
      | exact LeO.none _
      | refine LeO.ite ?_ ?_
      | refine LeO.bind ?_ (fun _ => ?_)
set_option maxHeartbeats 8000000 in
set_option maxRecDepth 100000 in
theorem impl_isPrint.calls (k : Nat) (a0 : ByteArray) (r : Bool) (w : World) (h : impl_isPrint.f k a0 = some r) :
    Calls Try.prog 71 #[.string a0] w fun e w' => e = .returned (.bool r) ∧ Drawn0 w w' := by
  have H : (impl_isPrint.l0 k a0 (a0.size : Int) 0) = some r := h
  clear h
  have H' := Aside0.mk H
  clear H
  go_enter Try.func71, Try.ntmps71
  go_wp2
  go_loopg [6] k (fun kq v6 w' => ∃ (x6_1 : Int), v6 = .int .i64 x6_1 ∧ Aside0 (impl_isPrint.l0 kq a0 (a0.size : Int) x6_1 = some r) ∧ Aside0 (kq ≤ k) ∧ Drawn0 w w')
  case atStart => exact ⟨(0), (by first | rfl | (simp; done) | (simp [*]; done)), H', ⟨Nat.le_refl _⟩, by repeat (first | exact Drawn0.refl _ | apply Drawn0.step)⟩
  case round =>
    clear H'
    obtain ⟨x6_1, rfl, HA, HK1, ⟨m1, rfl⟩⟩ := hrel
    cases gk with
    | zero => exact absurd HA.out (by simp [impl_isPrint.l0])
    | succ k1 =>
      have H := HA.out
      clear HA
      simp only [impl_isPrint.l0] at H
      by_cases c2 : x6_1 < (a0.size : Int)
      · rw [if_pos c2] at H
        have c2b0 : decide (x6_1 < (a0.size : Int)) = true := decide_eq_true c2
        clear c2
        by_cases c3 : 0 ≤ x6_1
        · rw [if_pos c3] at H
          have c3b0 : decide (0 ≤ x6_1) = true := decide_eq_true c3
          clear c3
          by_cases c4 : x6_1 < (a0.size : Int)
          · rw [if_pos c4] at H
            have c4b0 : decide (x6_1 < (a0.size : Int)) = true := decide_eq_true c4
            clear c4
            by_cases c6 : (bt a0 x6_1) < 33
            · rw [if_pos c6] at H
              have c6b0 : decide ((bt a0 x6_1) < 33) = true := decide_eq_true c6
              clear c6
              obtain rfl := Option.some.inj H
              have p5 : 0 ≤ (x6_1 : Int) := of_decide_eq_true (by first | (with_reducible assumption) | assumption)
              have q5 : x6_1 < (a0.size : Int) := of_decide_eq_true (by first | (with_reducible assumption) | assumption)
              have hx5 := bt_at a0 x6_1
              replace p5 := eq_true p5
              replace q5 := eq_true q5
              go_wp2
              go_ret
              exact ⟨by first | rfl | (simp; done) | (simp [*]; done), by repeat (first | exact Drawn0.refl _ | apply Drawn0.step)⟩
            · rw [if_neg c6] at H
              have c6b0 : decide ((bt a0 x6_1) < 33) = false := decide_eq_false c6
              clear c6
              by_cases c8 : (bt a0 x6_1) > 126
              · rw [if_pos c8] at H
                have c8b0 : decide (126 < (bt a0 x6_1)) = true := decide_eq_true c8
                clear c8
                obtain rfl := Option.some.inj H
                have p5 : 0 ≤ (x6_1 : Int) := of_decide_eq_true (by first | (with_reducible assumption) | assumption)
                have q5 : x6_1 < (a0.size : Int) := of_decide_eq_true (by first | (with_reducible assumption) | assumption)
                have hx5 := bt_at a0 x6_1
                replace p5 := eq_true p5
                replace q5 := eq_true q5
                have p7 : 0 ≤ (x6_1 : Int) := of_decide_eq_true (by first | (with_reducible assumption) | assumption)
                have q7 : x6_1 < (a0.size : Int) := of_decide_eq_true (by first | (with_reducible assumption) | assumption)
                have hx7 := bt_at a0 x6_1
                replace p7 := eq_true p7
                replace q7 := eq_true q7
                go_wp2
                go_ret
                exact ⟨by first | rfl | (simp; done) | (simp [*]; done), by repeat (first | exact Drawn0.refl _ | apply Drawn0.step)⟩
              · rw [if_neg c8] at H
                have c8b0 : decide (126 < (bt a0 x6_1)) = false := decide_eq_false c8
                clear c8
                have H' := Aside0.mk H
                clear H
                have p5 : 0 ≤ (x6_1 : Int) := of_decide_eq_true (by first | (with_reducible assumption) | assumption)
                have q5 : x6_1 < (a0.size : Int) := of_decide_eq_true (by first | (with_reducible assumption) | assumption)
                have hx5 := bt_at a0 x6_1
                replace p5 := eq_true p5
                replace q5 := eq_true q5
                have p7 : 0 ≤ (x6_1 : Int) := of_decide_eq_true (by first | (with_reducible assumption) | assumption)
                have q7 : x6_1 < (a0.size : Int) := of_decide_eq_true (by first | (with_reducible assumption) | assumption)
                have hx7 := bt_at a0 x6_1
                replace p7 := eq_true p7
                replace q7 := eq_true q7
                go_wp2
                go_roundg k1
                case measure => have := HK1.out; omega
                case rel => exact ⟨(wrap64 (x6_1 + 1)), (by first | rfl | (simp; done) | (simp [*]; done)), H', ⟨by have := HK1.out; omega⟩, by repeat (first | exact Drawn0.refl _ | apply Drawn0.step)⟩
          · rw [if_neg c4] at H
            exact absurd H (by simp)
        · rw [if_neg c3] at H
          exact absurd H (by simp)
      · rw [if_neg c2] at H
        have c2b0 : decide (x6_1 < (a0.size : Int)) = false := decide_eq_false c2
        clear c2
        obtain rfl := Option.some.inj H
        go_wp2
        go_ret
        exact ⟨by first | rfl | (simp; done) | (simp [*]; done), by repeat (first | exact Drawn0.refl _ | apply Drawn0.step)⟩

/-! ### impl_HandleOk: function 29 -/
def impl_HandleOk.f (k : Nat) (a0_0 : ByteArray) (a0_1 : ByteArray) : Option (Bool) := (impl_nameOk.f k a0_0).bind fun t158 => (if t158 = true then ((impl_within.f (a0_1.size : Int) 1 60).bind fun t159 => (if t159 = true then ((impl_isPrint.f k a0_1).bind fun t160 => (some t160)) else (some false))) else (some false))
theorem impl_HandleOk.mono : ∀ a0 a1 k, LeO (impl_HandleOk.f k a0 a1) (impl_HandleOk.f (k + 1) a0 a1) := by
  intro a0 a1 k
  unfold impl_HandleOk.f
  repeat' first
      | (with_reducible exact impl_isPrint.mono _ _)
      | (with_reducible exact impl_nameOk.mono _ _)
      | (with_reducible exact LeO.refl _)
      | (with_reducible exact LeO.none _)
      | (with_reducible refine LeO.ite ?_ ?_)
      | (with_reducible refine LeO.bind ?_ (fun _ => ?_))
      | exact impl_isPrint.mono _ _
      | exact impl_nameOk.mono _ _
      | exact LeO.none _
      | refine LeO.ite ?_ ?_
      | refine LeO.bind ?_ (fun _ => ?_)
set_option maxHeartbeats 8000000 in
set_option maxRecDepth 100000 in
theorem impl_HandleOk.calls (k : Nat) (a0_0 : ByteArray) (a0_1 : ByteArray) (r : Bool) (w : World) (h : impl_HandleOk.f k a0_0 a0_1 = some r) :
    Calls Try.prog 29 #[.agg #[.string a0_0, .string a0_1]] w fun e w' => e = .returned (.bool r) ∧ Below w.heap.size w w' := by
  have hu51 := Try.underlying51
  have HB := Aside0.mk (Below.refl w.heap.size w)
  have H : ((impl_nameOk.f k a0_0).bind fun t158 => (if t158 = true then ((impl_within.f (a0_1.size : Int) 1 60).bind fun t159 => (if t159 = true then ((impl_isPrint.f k a0_1).bind fun t160 => (some t160)) else (some false))) else (some false))) = some r := h
  clear h
  replace H := Option.bind_eq_some_iff.mp H
  obtain ⟨t158, A20, H⟩ := H
  replace H : (if t158 = true then ((impl_within.f (a0_1.size : Int) 1 60).bind fun t159 => (if t159 = true then ((impl_isPrint.f k a0_1).bind fun t160 => (some t160)) else (some false))) else (some false)) = some r := H
  have A2 := Aside0.mk A20
  clear A20
  by_cases c3 : t158 = true
  · subst c3
    have H1 : ((impl_within.f (a0_1.size : Int) 1 60).bind fun t159 => (if t159 = true then ((impl_isPrint.f k a0_1).bind fun t160 => (some t160)) else (some false))) = some r := by rw [if_pos rfl] at H; exact H
    clear H
    have H := H1
    clear H1
    replace H := Option.bind_eq_some_iff.mp H
    obtain ⟨t159, A40, H⟩ := H
    replace H : (if t159 = true then ((impl_isPrint.f k a0_1).bind fun t160 => (some t160)) else (some false)) = some r := H
    have A4 := Aside0.mk A40
    clear A40
    by_cases c5 : t159 = true
    · subst c5
      have H1 : ((impl_isPrint.f k a0_1).bind fun t160 => (some t160)) = some r := by rw [if_pos rfl] at H; exact H
      clear H
      have H := H1
      clear H1
      replace H := Option.bind_eq_some_iff.mp H
      obtain ⟨t160, A60, H⟩ := H
      replace H : (some t160) = some r := H
      have A6 := Aside0.mk A60
      clear A60
      obtain rfl := Option.some.inj H
      go_enter Try.func29, Try.ntmps29
      go_wp2_with (first | ((with_reducible refine gate_dst (N := 1) rfl ?_); (try (refine gate_guard (by rfl) ?_; dsimp only)); refine box_event ?hg (N := 1) ?hd (cs := #[.string a0_0, .string a0_1]) (t := 51) ?hr ?_; (case hd => rfl); (case hg => rfl); (case hr => first | (go_simp; done) | (go_simp; rfl)); intro gb157 hg w7 hbox hb; have n0_ := Aside0.mk (below_step (by repeat (first | (with_reducible first | exact HB.out | apply below_alloc | apply pw_below_drewN | apply below_drew1) | exact HB.out)) hb); have n1_ := Aside0.mk (hbox); have n2_ := Aside0.mk ((by rw [hg]; exact (below_size (by repeat (first | (with_reducible first | exact HB.out | apply below_alloc | apply pw_below_drewN | apply below_drew1) | exact HB.out))) : w.heap.size ≤ gb157)); have n3_ := Aside0.mk ((by rw [hg]; exact (below_size (by repeat (first | (with_reducible first | exact HB.out | apply below_alloc | apply pw_below_drewN | apply below_drew1) | exact HB.out))) : w.heap.size ≤ gb157)); clear HB; have HB := n0_; have BK157 := n1_; have GW157 := n2_; have GE157 := n3_; clear n0_ n1_ n2_ n3_; clear hb hbox hg; have hcz8_0 : w7.cell? ⟨gb157, 0, none⟩ = some (.string a0_0) := (blk_cell BK157.out 0).trans rfl; have hcz8_1 : w7.cell? ⟨gb157, 1, none⟩ = some (.string a0_1) := (blk_cell BK157.out 1).trans rfl; have hfz8_0 := blk_frozen BK157.out 0; have hfz8_1 := blk_frozen BK157.out 1) | ((with_reducible refine gate_callee (f := 70) rfl ?_); refine goesL_ (some 5) rfl rfl Try.func70 (by kernel_rfl) rfl #[.string a0_0] rfl (by (try simp only [List.map_toArray, List.map_cons, List.map_nil]); first | done | rfl | (simp only [List.length_drop, List.length_take]; rfl)) ?_; (with_reducible refine (impl_nameOk.calls k a0_0 true _ A2.out).mono ?_); rintro e w' ⟨rfl, ⟨nd, rfl⟩⟩; refine ⟨_, rfl, ?_⟩) | (go_at_call 61; (with_reducible refine (impl_within.calls (a0_1.size : Int) 1 60 true _ A4.out).mono ?_); rintro e w' ⟨rfl, ⟨nd, rfl⟩⟩) | (go_at_call 71; (with_reducible refine (impl_isPrint.calls k a0_1 t160 _ A6.out).mono ?_); rintro e w' ⟨rfl, ⟨nd, rfl⟩⟩))
      go_ret
      exact ⟨by first | rfl | (simp [errW_none, errW_some] <;> rfl) | (simp [*, errW_none, errW_some] <;> rfl), by repeat (first | (with_reducible first | exact HB.out | apply below_alloc | apply pw_below_drewN | apply below_drew1 | refine below_set ?_ GE157.out) | exact HB.out)⟩
    · replace c5 := Bool.eq_false_iff.mpr c5
      subst c5
      have H1 : (some false) = some r := by rw [if_neg (show ¬ (false = true) by decide)] at H; exact H
      clear H
      have H := H1
      clear H1
      obtain rfl := Option.some.inj H
      go_enter Try.func29, Try.ntmps29
      go_wp2_with (first | ((with_reducible refine gate_dst (N := 1) rfl ?_); (try (refine gate_guard (by rfl) ?_; dsimp only)); refine box_event ?hg (N := 1) ?hd (cs := #[.string a0_0, .string a0_1]) (t := 51) ?hr ?_; (case hd => rfl); (case hg => rfl); (case hr => first | (go_simp; done) | (go_simp; rfl)); intro gb157 hg w9 hbox hb; have n0_ := Aside0.mk (below_step (by repeat (first | (with_reducible first | exact HB.out | apply below_alloc | apply pw_below_drewN | apply below_drew1) | exact HB.out)) hb); have n1_ := Aside0.mk (hbox); have n2_ := Aside0.mk ((by rw [hg]; exact (below_size (by repeat (first | (with_reducible first | exact HB.out | apply below_alloc | apply pw_below_drewN | apply below_drew1) | exact HB.out))) : w.heap.size ≤ gb157)); have n3_ := Aside0.mk ((by rw [hg]; exact (below_size (by repeat (first | (with_reducible first | exact HB.out | apply below_alloc | apply pw_below_drewN | apply below_drew1) | exact HB.out))) : w.heap.size ≤ gb157)); clear HB; have HB := n0_; have BK157 := n1_; have GW157 := n2_; have GE157 := n3_; clear n0_ n1_ n2_ n3_; clear hb hbox hg; have hcz10_0 : w9.cell? ⟨gb157, 0, none⟩ = some (.string a0_0) := (blk_cell BK157.out 0).trans rfl; have hcz10_1 : w9.cell? ⟨gb157, 1, none⟩ = some (.string a0_1) := (blk_cell BK157.out 1).trans rfl; have hfz10_0 := blk_frozen BK157.out 0; have hfz10_1 := blk_frozen BK157.out 1) | ((with_reducible refine gate_callee (f := 70) rfl ?_); refine goesL_ (some 5) rfl rfl Try.func70 (by kernel_rfl) rfl #[.string a0_0] rfl (by (try simp only [List.map_toArray, List.map_cons, List.map_nil]); first | done | rfl | (simp only [List.length_drop, List.length_take]; rfl)) ?_; (with_reducible refine (impl_nameOk.calls k a0_0 true _ A2.out).mono ?_); rintro e w' ⟨rfl, ⟨nd, rfl⟩⟩; refine ⟨_, rfl, ?_⟩) | (go_at_call 61; (with_reducible refine (impl_within.calls (a0_1.size : Int) 1 60 false _ A4.out).mono ?_); rintro e w' ⟨rfl, ⟨nd, rfl⟩⟩))
      go_ret
      exact ⟨by first | rfl | (simp [errW_none, errW_some] <;> rfl) | (simp [*, errW_none, errW_some] <;> rfl), by repeat (first | (with_reducible first | exact HB.out | apply below_alloc | apply pw_below_drewN | apply below_drew1 | refine below_set ?_ GE157.out) | exact HB.out)⟩
  · replace c3 := Bool.eq_false_iff.mpr c3
    subst c3
    have H1 : (some false) = some r := by rw [if_neg (show ¬ (false = true) by decide)] at H; exact H
    clear H
    have H := H1
    clear H1
    obtain rfl := Option.some.inj H
    go_enter Try.func29, Try.ntmps29
    go_wp2_with (first | ((with_reducible refine gate_dst (N := 1) rfl ?_); (try (refine gate_guard (by rfl) ?_; dsimp only)); refine box_event ?hg (N := 1) ?hd (cs := #[.string a0_0, .string a0_1]) (t := 51) ?hr ?_; (case hd => rfl); (case hg => rfl); (case hr => first | (go_simp; done) | (go_simp; rfl)); intro gb157 hg w11 hbox hb; have n0_ := Aside0.mk (below_step (by repeat (first | (with_reducible first | exact HB.out | apply below_alloc | apply pw_below_drewN | apply below_drew1) | exact HB.out)) hb); have n1_ := Aside0.mk (hbox); have n2_ := Aside0.mk ((by rw [hg]; exact (below_size (by repeat (first | (with_reducible first | exact HB.out | apply below_alloc | apply pw_below_drewN | apply below_drew1) | exact HB.out))) : w.heap.size ≤ gb157)); have n3_ := Aside0.mk ((by rw [hg]; exact (below_size (by repeat (first | (with_reducible first | exact HB.out | apply below_alloc | apply pw_below_drewN | apply below_drew1) | exact HB.out))) : w.heap.size ≤ gb157)); clear HB; have HB := n0_; have BK157 := n1_; have GW157 := n2_; have GE157 := n3_; clear n0_ n1_ n2_ n3_; clear hb hbox hg; have hcz12_0 : w11.cell? ⟨gb157, 0, none⟩ = some (.string a0_0) := (blk_cell BK157.out 0).trans rfl; have hcz12_1 : w11.cell? ⟨gb157, 1, none⟩ = some (.string a0_1) := (blk_cell BK157.out 1).trans rfl; have hfz12_0 := blk_frozen BK157.out 0; have hfz12_1 := blk_frozen BK157.out 1) | ((with_reducible refine gate_callee (f := 70) rfl ?_); refine goesL_ (some 5) rfl rfl Try.func70 (by kernel_rfl) rfl #[.string a0_0] rfl (by (try simp only [List.map_toArray, List.map_cons, List.map_nil]); first | done | rfl | (simp only [List.length_drop, List.length_take]; rfl)) ?_; (with_reducible refine (impl_nameOk.calls k a0_0 false _ A2.out).mono ?_); rintro e w' ⟨rfl, ⟨nd, rfl⟩⟩; refine ⟨_, rfl, ?_⟩))
    go_ret
    exact ⟨by first | rfl | (simp [errW_none, errW_some] <;> rfl) | (simp [*, errW_none, errW_some] <;> rfl), by repeat (first | (with_reducible first | exact HB.out | apply below_alloc | apply pw_below_drewN | apply below_drew1 | refine below_set ?_ GE157.out) | exact HB.out)⟩

/-! ### laws_FnTag: function 6 -/
def laws_FnTag.j0 : Nat → ByteArray → Option (Bool)
  | 0, _ => none
  | k + 1, x3 => if 2 + x3.size ≤ 9223372036854775807 then (if ((⟨#[33, 60]⟩ : ByteArray) ++ x3).size + 1 ≤ 9223372036854775807 then (if (((⟨#[33, 60]⟩ : ByteArray) ++ x3) ++ (⟨#[62]⟩ : ByteArray)).size + 2 ≤ 9223372036854775807 then ((impl_TagAt.f k ((((⟨#[33, 60]⟩ : ByteArray) ++ x3) ++ (⟨#[62]⟩ : ByteArray)) ++ (⟨#[32, 120]⟩ : ByteArray)) 0).bind fun bt162 => ((impl_TagRead.f k bt162.1 ([] : List (S51))).bind fun bt165 => (if 3 + x3.size ≤ 9223372036854775807 then ((impl_TagRead.f k ((⟨#[33, 104, 33]⟩ : ByteArray) ++ x3) (([(⟨(⟨#[33, 104, 33]⟩ : ByteArray), (⟨#[112, 58]⟩ : ByteArray)⟩ : S51)] : List (S51)))).bind fun bt170 => ((impl_TagRead.f k ((⟨#[33, 103, 33]⟩ : ByteArray) ++ x3) ([] : List (S51))).bind fun bt172 => (if bt162.2.2 = true then (if bt165.2 = true then (if bt170.2 = true then (if bt172.2 = true then (some false) else (if bt162.2.1 = ((((⟨#[33, 60]⟩ : ByteArray) ++ x3) ++ (⟨#[62]⟩ : ByteArray)).size : Int) then (if bt162.1.toList = (((⟨#[33, 60]⟩ : ByteArray) ++ x3) ++ (⟨#[62]⟩ : ByteArray)).toList then (if bt165.1.toList = x3.toList then (if bt170.1.toList = ((⟨#[112, 58]⟩ : ByteArray) ++ x3).toList then ((impl_HandleOk.f k (⟨#[33, 104, 33]⟩ : ByteArray) (⟨#[112, 58]⟩ : ByteArray)).bind fun t174 => (some t174)) else (some false)) else (some false)) else (some false)) else (some false))) else (some false)) else (some false)) else (some false)))) else (none)))) else (none)) else (none)) else (none)
def laws_FnTag.f (k : Nat) (l0 : List Int) : Option (Bool) := if (l0.length : Int) > 1048576 then (some true) else ((spec_MakeWord.f k l0).bind fun t161 => (if t161.toList = ([97, 32, 98] : List UInt8) then (laws_FnTag.j0 k (⟨#[97, 98]⟩ : ByteArray)) else (laws_FnTag.j0 k t161)))
theorem laws_FnTag.mono_l : ∀ k, (∀ y0, LeO (laws_FnTag.j0 k y0) (laws_FnTag.j0 (k + 1) y0))
  | 0 => fun _ r h => by simp [laws_FnTag.j0] at h
  | k + 1 => by
    have ih0 := laws_FnTag.mono_l k
    · intro y0
      unfold laws_FnTag.j0
      repeat' first
      | (with_reducible exact ih0 _)
      | (with_reducible exact impl_HandleOk.mono _ _ _)
      | (with_reducible exact impl_TagAt.mono _ _ _)
      | (with_reducible exact impl_TagRead.mono _ _ _)
      | (with_reducible exact spec_MakeWord.mono _ _)
      | (with_reducible exact LeO.refl _)
      | (with_reducible exact LeO.none _)
      | (with_reducible refine LeO.ite ?_ ?_)
      | (with_reducible refine LeO.bind ?_ (fun _ => ?_))
      | exact ih0 _
      | exact impl_HandleOk.mono _ _ _
      | exact impl_TagAt.mono _ _ _
      | exact impl_TagRead.mono _ _ _
      | exact spec_MakeWord.mono _ _
      | exact LeO.none _
      | refine LeO.ite ?_ ?_
      | refine LeO.bind ?_ (fun _ => ?_)
theorem laws_FnTag.mono : ∀ a0 k, LeO (laws_FnTag.f k a0) (laws_FnTag.f (k + 1) a0) := by
  intro a0 k
  have ih0 := laws_FnTag.mono_l k
  unfold laws_FnTag.f
  repeat' first
      | (with_reducible exact ih0 _)
      | (with_reducible exact impl_HandleOk.mono _ _ _)
      | (with_reducible exact impl_TagAt.mono _ _ _)
      | (with_reducible exact impl_TagRead.mono _ _ _)
      | (with_reducible exact spec_MakeWord.mono _ _)
      | (with_reducible exact LeO.refl _)
      | (with_reducible exact LeO.none _)
      | (with_reducible refine LeO.ite ?_ ?_)
      | (with_reducible refine LeO.bind ?_ (fun _ => ?_))
      | exact ih0 _
      | exact impl_HandleOk.mono _ _ _
      | exact impl_TagAt.mono _ _ _
      | exact impl_TagRead.mono _ _ _
      | exact spec_MakeWord.mono _ _
      | exact LeO.none _
      | refine LeO.ite ?_ ?_
      | refine LeO.bind ?_ (fun _ => ?_)
set_option maxHeartbeats 8000000 in
set_option maxRecDepth 100000 in
theorem laws_FnTag.calls (k : Nat) (A0 : Option Addr) (c0 : Nat) (l0 : List Int) (r : Bool) (w : World) (hr0 : Kd.C (Kd.int .u8) w A0 l0.length l0) (hc0 : l0.length ≤ c0) (h : laws_FnTag.f k l0 = some r) :
    Calls Try.prog 6 #[.slice A0 l0.length c0] w fun e w' => e = .returned (.bool r) ∧ Below w.heap.size w w' := by
  have hu51 := Try.underlying51
  have HR0 := Aside0.mk hr0
  have HC0 := Aside0.mk hc0
  clear hr0 hc0
  have HB := Aside0.mk (Below.refl w.heap.size w)
  have H : (if (l0.length : Int) > 1048576 then (some true) else ((spec_MakeWord.f k l0).bind fun t161 => (if t161.toList = ([97, 32, 98] : List UInt8) then (laws_FnTag.j0 k (⟨#[97, 98]⟩ : ByteArray)) else (laws_FnTag.j0 k t161)))) = some r := h
  clear h
  by_cases c2 : (l0.length : Int) > 1048576
  · rw [if_pos c2] at H
    have c2b0 : decide (1048576 < (l0.length : Int)) = true := decide_eq_true c2
    have c2b1 : decide (1048576 < l0.length) = true := decide_eq_true (by omega)
    clear c2
    obtain rfl := Option.some.inj H
    go_enter Try.func6, Try.ntmps6
    go_wp2
    go_ret
    exact ⟨by first | rfl | (simp [errW_none, errW_some] <;> rfl) | (simp [*, errW_none, errW_some] <;> rfl), by repeat (first | (with_reducible first | exact HB.out | apply below_alloc | apply pw_below_drewN | apply below_drew1) | exact HB.out)⟩
  · rw [if_neg c2] at H
    have c2b0 : decide (1048576 < (l0.length : Int)) = false := decide_eq_false c2
    have c2b1 : decide (1048576 < l0.length) = false := decide_eq_false (by omega)
    clear c2
    replace H := Option.bind_eq_some_iff.mp H
    obtain ⟨t161, A30, H⟩ := H
    replace H : (if t161.toList = ([97, 32, 98] : List UInt8) then (laws_FnTag.j0 k (⟨#[97, 98]⟩ : ByteArray)) else (laws_FnTag.j0 k t161)) = some r := H
    have A3 := Aside0.mk A30
    clear A30
    have HC4 := Aside0.mk H
    clear H
    go_enter Try.func6, Try.ntmps6
    go_upto_if 20 with (first | ((with_reducible refine gate_callee (f := 26) rfl ?_); refine goesL_ (some 18) rfl rfl Try.func26 (by kernel_rfl) rfl #[.slice A0 l0.length c0] rfl (by (try simp only [List.map_toArray, List.map_cons, List.map_nil]); first | done | rfl | (simp only [List.length_drop, List.length_take]; rfl)) ?_; (with_reducible refine (spec_MakeWord.calls k _ _ l0 t161 _ ?side1 ?side2 A3.out).mono ?_); (case side1 => repeat (first | exact HR0.out | (with_reducible refine Kd.C_alloc ?_ _) | (with_reducible refine Kd.C_drewN ?_ _) | (with_reducible refine Kd.C_drew ?_))); (case side2 => exact HC0.out); rintro e w5 ⟨rfl, hb⟩; refine ⟨_, rfl, ?_⟩; have n0_ := Aside0.mk (below_step (by repeat (first | (with_reducible first | exact HB.out | apply below_alloc | apply pw_below_drewN | apply below_drew1) | exact HB.out)) hb); clear HB; have HB := n0_; clear n0_; (try clear hb); (try clear hb2); (try clear hk); (try clear hi)))
    (try simp only [Act.put, List.setIfInBounds_toArray, List.set_cons_zero, List.set_cons_succ])
    go_cut [3] (fun v3 wc => ∃ (kq : Nat) (x3_3 : ByteArray), v3 = .string x3_3 ∧ Aside0 (laws_FnTag.j0 kq x3_3 = some r) ∧ Aside0 (kq ≤ k) ∧ Aside0 (Below w.heap.size w wc))
    case first =>
      have H := HC4.out
      clear HC4
      by_cases c6 : t161.toList = ([97, 32, 98] : List UInt8)
      · rw [if_pos c6] at H
        have c6b0 : (t161.toList == ([97, 32, 98] : List UInt8)) = true := beq_iff_eq.mpr c6
        have c6b1 : (t161.toList != ([97, 32, 98] : List UInt8)) = false := bne_eq_false_iff_eq.mpr c6
        clear c6
        (first | rw [c6b0] | (simp only [i64_w, i32_w]; rw [c6b0]) | skip)
        have H' := Aside0.mk H
        clear H
        go_wp2
        go_meet
        case rel => exact ⟨_, ((⟨#[97, 98]⟩ : ByteArray)), (by first | rfl | (simp; done) | (simp [*]; done)), H', ⟨by first | omega | exact Nat.le_refl _⟩, ⟨by repeat (first | (with_reducible first | exact HB.out | apply below_alloc | apply pw_below_drewN | apply below_drew1) | exact HB.out)⟩⟩
      · rw [if_neg c6] at H
        have c6b0 : (t161.toList == ([97, 32, 98] : List UInt8)) = false := beq_eq_false_iff_ne.mpr c6
        have c6b1 : (t161.toList != ([97, 32, 98] : List UInt8)) = true := bne_iff_ne.mpr c6
        (first | rw [c6b0] | (simp only [i64_w, i32_w]; rw [c6b0]) | skip)
        have H' := Aside0.mk H
        clear H
        go_wp2
        go_meet
        case rel => exact ⟨_, (t161), (by first | rfl | (simp; done) | (simp [*]; done)), H', ⟨by first | omega | exact Nat.le_refl _⟩, ⟨by repeat (first | (with_reducible first | exact HB.out | apply below_alloc | apply pw_below_drewN | apply below_drew1) | exact HB.out)⟩⟩
    case rest =>
      clear HC4
      try clear c2
      try clear c2b0
      try clear c2b1
      try clear p2
      try clear c6
      try clear c6b0
      try clear c6b1
      obtain ⟨kq, x3_3, rfl, HA, HJ3, HB⟩ := hcut
      cases kq with
      | zero => exact absurd HA.out (by simp [laws_FnTag.j0])
      | succ kj3 =>
        have H := HA.out
        clear HA
        simp only [laws_FnTag.j0] at H
        by_cases c7 : 2 + x3_3.size ≤ 9223372036854775807
        · rw [if_pos c7] at H
          have c7b0 := eq_true c7
          have c7b1 : decide (2 + x3_3.size ≤ 9223372036854775807) = true := decide_eq_true c7
          try have c7b2 : (9223372036854775807 < 2 + x3_3.size) = False := eq_false (Nat.not_lt.2 c7)
          try (have c7b4 := c7b2; simp only [ByteArray.size_extract, Nat.min_self] at c7b4)
          try (have c7b4 := c7b2; simp only [ByteArray.size_extract, Nat.min_self] at c7b4)
          by_cases c8 : ((⟨#[33, 60]⟩ : ByteArray) ++ x3_3).size + 1 ≤ 9223372036854775807
          · rw [if_pos c8] at H
            have c8b0 := eq_true c8
            have c8b1 : decide (((⟨#[33, 60]⟩ : ByteArray) ++ x3_3).size + 1 ≤ 9223372036854775807) = true := decide_eq_true c8
            try have c8b2 : (9223372036854775807 < ((⟨#[33, 60]⟩ : ByteArray) ++ x3_3).size + 1) = False := eq_false (Nat.not_lt.2 c8)
            try have c8b5 : (9223372036854775807 < 2 + x3_3.size + 1) = False := by (have q := c8b2; simp only [ByteArray.size_append] at q; exact q)
            try (have c8b4 := c8b2; simp only [ByteArray.size_extract, Nat.min_self] at c8b4)
            try (have c8b4 := c8b2; simp only [ByteArray.size_extract, Nat.min_self] at c8b4)
            by_cases c9 : (((⟨#[33, 60]⟩ : ByteArray) ++ x3_3) ++ (⟨#[62]⟩ : ByteArray)).size + 2 ≤ 9223372036854775807
            · rw [if_pos c9] at H
              have c9b0 := eq_true c9
              have c9b1 : decide ((((⟨#[33, 60]⟩ : ByteArray) ++ x3_3) ++ (⟨#[62]⟩ : ByteArray)).size + 2 ≤ 9223372036854775807) = true := decide_eq_true c9
              try have c9b2 : (9223372036854775807 < (((⟨#[33, 60]⟩ : ByteArray) ++ x3_3) ++ (⟨#[62]⟩ : ByteArray)).size + 2) = False := eq_false (Nat.not_lt.2 c9)
              try have c9b5 : (9223372036854775807 < 2 + x3_3.size + 1 + 2) = False := by (have q := c9b2; simp only [ByteArray.size_append] at q; exact q)
              try (have c9b4 := c9b2; simp only [ByteArray.size_extract, Nat.min_self] at c9b4)
              try (have c9b4 := c9b2; simp only [ByteArray.size_extract, Nat.min_self] at c9b4)
              replace H := Option.bind_eq_some_iff.mp H
              obtain ⟨⟨t162, t163, t164⟩, A100, H⟩ := H
              replace H : ((impl_TagRead.f kj3 t162 ([] : List (S51))).bind fun bt165 => (if 3 + x3_3.size ≤ 9223372036854775807 then ((impl_TagRead.f kj3 ((⟨#[33, 104, 33]⟩ : ByteArray) ++ x3_3) (([(⟨(⟨#[33, 104, 33]⟩ : ByteArray), (⟨#[112, 58]⟩ : ByteArray)⟩ : S51)] : List (S51)))).bind fun bt170 => ((impl_TagRead.f kj3 ((⟨#[33, 103, 33]⟩ : ByteArray) ++ x3_3) ([] : List (S51))).bind fun bt172 => (if t164 = true then (if bt165.2 = true then (if bt170.2 = true then (if bt172.2 = true then (some false) else (if t163 = ((((⟨#[33, 60]⟩ : ByteArray) ++ x3_3) ++ (⟨#[62]⟩ : ByteArray)).size : Int) then (if t162.toList = (((⟨#[33, 60]⟩ : ByteArray) ++ x3_3) ++ (⟨#[62]⟩ : ByteArray)).toList then (if bt165.1.toList = x3_3.toList then (if bt170.1.toList = ((⟨#[112, 58]⟩ : ByteArray) ++ x3_3).toList then ((impl_HandleOk.f kj3 (⟨#[33, 104, 33]⟩ : ByteArray) (⟨#[112, 58]⟩ : ByteArray)).bind fun t174 => (some t174)) else (some false)) else (some false)) else (some false)) else (some false))) else (some false)) else (some false)) else (some false)))) else (none))) = some r := H
              have A10 := Aside0.mk A100
              clear A100
              replace H := Option.bind_eq_some_iff.mp H
              obtain ⟨⟨t165, t166⟩, A110, H⟩ := H
              replace H : (if 3 + x3_3.size ≤ 9223372036854775807 then ((impl_TagRead.f kj3 ((⟨#[33, 104, 33]⟩ : ByteArray) ++ x3_3) (([(⟨(⟨#[33, 104, 33]⟩ : ByteArray), (⟨#[112, 58]⟩ : ByteArray)⟩ : S51)] : List (S51)))).bind fun bt170 => ((impl_TagRead.f kj3 ((⟨#[33, 103, 33]⟩ : ByteArray) ++ x3_3) ([] : List (S51))).bind fun bt172 => (if t164 = true then (if t166 = true then (if bt170.2 = true then (if bt172.2 = true then (some false) else (if t163 = ((((⟨#[33, 60]⟩ : ByteArray) ++ x3_3) ++ (⟨#[62]⟩ : ByteArray)).size : Int) then (if t162.toList = (((⟨#[33, 60]⟩ : ByteArray) ++ x3_3) ++ (⟨#[62]⟩ : ByteArray)).toList then (if t165.toList = x3_3.toList then (if bt170.1.toList = ((⟨#[112, 58]⟩ : ByteArray) ++ x3_3).toList then ((impl_HandleOk.f kj3 (⟨#[33, 104, 33]⟩ : ByteArray) (⟨#[112, 58]⟩ : ByteArray)).bind fun t174 => (some t174)) else (some false)) else (some false)) else (some false)) else (some false))) else (some false)) else (some false)) else (some false)))) else (none)) = some r := H
              have A11 := Aside0.mk A110
              clear A110
              by_cases c12 : 3 + x3_3.size ≤ 9223372036854775807
              · rw [if_pos c12] at H
                have c12b0 := eq_true c12
                have c12b1 : decide (3 + x3_3.size ≤ 9223372036854775807) = true := decide_eq_true c12
                try have c12b2 : (9223372036854775807 < 3 + x3_3.size) = False := eq_false (Nat.not_lt.2 c12)
                try (have c12b4 := c12b2; simp only [ByteArray.size_extract, Nat.min_self] at c12b4)
                try (have c12b4 := c12b2; simp only [ByteArray.size_extract, Nat.min_self] at c12b4)
                obtain ⟨y167, hy167⟩ : ∃ y_ : List (S51), y_ = (([(⟨(⟨#[33, 104, 33]⟩ : ByteArray), (⟨#[112, 58]⟩ : ByteArray)⟩ : S51)] : List (S51))) := ⟨_, rfl⟩
                replace H : ((impl_TagRead.f kj3 ((⟨#[33, 104, 33]⟩ : ByteArray) ++ x3_3) y167).bind fun bt170 => ((impl_TagRead.f kj3 ((⟨#[33, 103, 33]⟩ : ByteArray) ++ x3_3) ([] : List (S51))).bind fun bt172 => (if t164 = true then (if t166 = true then (if bt170.2 = true then (if bt172.2 = true then (some false) else (if t163 = ((((⟨#[33, 60]⟩ : ByteArray) ++ x3_3) ++ (⟨#[62]⟩ : ByteArray)).size : Int) then (if t162.toList = (((⟨#[33, 60]⟩ : ByteArray) ++ x3_3) ++ (⟨#[62]⟩ : ByteArray)).toList then (if t165.toList = x3_3.toList then (if bt170.1.toList = ((⟨#[112, 58]⟩ : ByteArray) ++ x3_3).toList then ((impl_HandleOk.f kj3 (⟨#[33, 104, 33]⟩ : ByteArray) (⟨#[112, 58]⟩ : ByteArray)).bind fun t174 => (some t174)) else (some false)) else (some false)) else (some false)) else (some false))) else (some false)) else (some false)) else (some false)))) = some r := by first | (rw [hy167]; with_reducible exact H) | (have H2_ := (Option.bind_some _ _).symm.trans H; rw [hy167]; with_reducible exact H2_) | (have H2_ := (Option.bind_some _ _).symm.trans H; with_reducible exact H2_) | with_reducible exact H | (rw [hy167]; exact H) | exact H
                have Ny167 := Aside0.mk hy167
                clear hy167
                replace H := Option.bind_eq_some_iff.mp H
                obtain ⟨⟨t170, t171⟩, A130, H⟩ := H
                replace H : ((impl_TagRead.f kj3 ((⟨#[33, 103, 33]⟩ : ByteArray) ++ x3_3) ([] : List (S51))).bind fun bt172 => (if t164 = true then (if t166 = true then (if t171 = true then (if bt172.2 = true then (some false) else (if t163 = ((((⟨#[33, 60]⟩ : ByteArray) ++ x3_3) ++ (⟨#[62]⟩ : ByteArray)).size : Int) then (if t162.toList = (((⟨#[33, 60]⟩ : ByteArray) ++ x3_3) ++ (⟨#[62]⟩ : ByteArray)).toList then (if t165.toList = x3_3.toList then (if t170.toList = ((⟨#[112, 58]⟩ : ByteArray) ++ x3_3).toList then ((impl_HandleOk.f kj3 (⟨#[33, 104, 33]⟩ : ByteArray) (⟨#[112, 58]⟩ : ByteArray)).bind fun t174 => (some t174)) else (some false)) else (some false)) else (some false)) else (some false))) else (some false)) else (some false)) else (some false))) = some r := H
                have A13 := Aside0.mk A130
                clear A130
                replace H := Option.bind_eq_some_iff.mp H
                obtain ⟨⟨t172, t173⟩, A140, H⟩ := H
                replace H : (if t164 = true then (if t166 = true then (if t171 = true then (if t173 = true then (some false) else (if t163 = ((((⟨#[33, 60]⟩ : ByteArray) ++ x3_3) ++ (⟨#[62]⟩ : ByteArray)).size : Int) then (if t162.toList = (((⟨#[33, 60]⟩ : ByteArray) ++ x3_3) ++ (⟨#[62]⟩ : ByteArray)).toList then (if t165.toList = x3_3.toList then (if t170.toList = ((⟨#[112, 58]⟩ : ByteArray) ++ x3_3).toList then ((impl_HandleOk.f kj3 (⟨#[33, 104, 33]⟩ : ByteArray) (⟨#[112, 58]⟩ : ByteArray)).bind fun t174 => (some t174)) else (some false)) else (some false)) else (some false)) else (some false))) else (some false)) else (some false)) else (some false)) = some r := H
                have A14 := Aside0.mk A140
                clear A140
                by_cases c15 : t164 = true
                · subst c15
                  have H1 : (if t166 = true then (if t171 = true then (if t173 = true then (some false) else (if t163 = ((((⟨#[33, 60]⟩ : ByteArray) ++ x3_3) ++ (⟨#[62]⟩ : ByteArray)).size : Int) then (if t162.toList = (((⟨#[33, 60]⟩ : ByteArray) ++ x3_3) ++ (⟨#[62]⟩ : ByteArray)).toList then (if t165.toList = x3_3.toList then (if t170.toList = ((⟨#[112, 58]⟩ : ByteArray) ++ x3_3).toList then ((impl_HandleOk.f kj3 (⟨#[33, 104, 33]⟩ : ByteArray) (⟨#[112, 58]⟩ : ByteArray)).bind fun t174 => (some t174)) else (some false)) else (some false)) else (some false)) else (some false))) else (some false)) else (some false)) = some r := by rw [if_pos rfl] at H; exact H
                  clear H
                  have H := H1
                  clear H1
                  by_cases c16 : t166 = true
                  · subst c16
                    have H1 : (if t171 = true then (if t173 = true then (some false) else (if t163 = ((((⟨#[33, 60]⟩ : ByteArray) ++ x3_3) ++ (⟨#[62]⟩ : ByteArray)).size : Int) then (if t162.toList = (((⟨#[33, 60]⟩ : ByteArray) ++ x3_3) ++ (⟨#[62]⟩ : ByteArray)).toList then (if t165.toList = x3_3.toList then (if t170.toList = ((⟨#[112, 58]⟩ : ByteArray) ++ x3_3).toList then ((impl_HandleOk.f kj3 (⟨#[33, 104, 33]⟩ : ByteArray) (⟨#[112, 58]⟩ : ByteArray)).bind fun t174 => (some t174)) else (some false)) else (some false)) else (some false)) else (some false))) else (some false)) = some r := by rw [if_pos rfl] at H; exact H
                    clear H
                    have H := H1
                    clear H1
                    by_cases c17 : t171 = true
                    · subst c17
                      have H1 : (if t173 = true then (some false) else (if t163 = ((((⟨#[33, 60]⟩ : ByteArray) ++ x3_3) ++ (⟨#[62]⟩ : ByteArray)).size : Int) then (if t162.toList = (((⟨#[33, 60]⟩ : ByteArray) ++ x3_3) ++ (⟨#[62]⟩ : ByteArray)).toList then (if t165.toList = x3_3.toList then (if t170.toList = ((⟨#[112, 58]⟩ : ByteArray) ++ x3_3).toList then ((impl_HandleOk.f kj3 (⟨#[33, 104, 33]⟩ : ByteArray) (⟨#[112, 58]⟩ : ByteArray)).bind fun t174 => (some t174)) else (some false)) else (some false)) else (some false)) else (some false))) = some r := by rw [if_pos rfl] at H; exact H
                      clear H
                      have H := H1
                      clear H1
                      by_cases c18 : t173 = true
                      · subst c18
                        have H1 : (some false) = some r := by rw [if_pos rfl] at H; exact H
                        clear H
                        have H := H1
                        clear H1
                        obtain rfl := Option.some.inj H
                        go_wp2_with (first | ((with_reducible refine gate_callee (f := 27) rfl ?_); refine goesL_ (some 27) rfl rfl Try.func27 (by kernel_rfl) rfl #[.string ((((⟨#[33, 60]⟩ : ByteArray) ++ x3_3) ++ (⟨#[62]⟩ : ByteArray)) ++ (⟨#[32, 120]⟩ : ByteArray)), .int .i64 0] rfl (by (try simp only [List.map_toArray, List.map_cons, List.map_nil]); first | done | rfl | (simp only [List.length_drop, List.length_take]; rfl)) ?_; (with_reducible refine (impl_TagAt.calls kj3 ((((⟨#[33, 60]⟩ : ByteArray) ++ x3_3) ++ (⟨#[62]⟩ : ByteArray)) ++ (⟨#[32, 120]⟩ : ByteArray)) 0 t162 t163 true _ A10.out).mono ?_); rintro e w19 ⟨rfl, hb⟩; refine ⟨_, rfl, ?_⟩; have n0_ := Aside0.mk (below_step (by repeat (first | (with_reducible first | exact HB.out | apply below_alloc | apply pw_below_drewN | apply below_drew1) | exact HB.out)) hb); clear HB; have HB := n0_; clear n0_; (try clear hb); (try clear hb2); (try clear hk); (try clear hi)) | ((with_reducible refine gate_callee (f := 28) rfl ?_); refine goesL_ (some 33) rfl rfl Try.func28 (by kernel_rfl) rfl #[.string t162, .slice none 0 0] rfl (by (try simp only [List.map_toArray, List.map_cons, List.map_nil]); first | done | rfl | (simp only [List.length_drop, List.length_take]; rfl)) ?_; (refine (impl_TagRead.calls kj3 t162 _ _ ([] : List (S51)) t165 true _ ?side1 ?side2 A11.out).mono ?_); (case side1 => exact Kd.C_nil _ _); (case side2 => exact Nat.le_refl _); rintro e w20 ⟨rfl, hb⟩; refine ⟨_, rfl, ?_⟩; have n0_ := Aside0.mk (below_step (by repeat (first | (with_reducible first | exact HB.out | apply below_alloc | apply pw_below_drewN | apply below_drew1) | exact HB.out)) hb); clear HB; have HB := n0_; clear n0_; (try clear hb); (try clear hb2); (try clear hk); (try clear hi)) | ((with_reducible refine gate_dst (N := 40) rfl ?_); (try (refine gate_guard (by rfl) ?_; dsimp only)); refine Kd.R_lit k51 _ 51 ?hg (N := 40) ?hd (xs := ([(⟨(⟨#[33, 104, 33]⟩ : ByteArray), (⟨#[112, 58]⟩ : ByteArray)⟩ : S51)] : List (S51))) (inner := [.string (⟨#[33, 104, 33]⟩ : ByteArray), .string (⟨#[112, 58]⟩ : ByteArray)]) (ok := fun _ => True) (okp := fun _ => True) ?hr ?hp (fun _ hk => hk) trivial (Below.refl _ _) (Nat.le_refl _) (by simp) ?_; (case hd => rfl); (case hg => rfl); (case hr => first | (go_simp; done) | (go_simp; rfl)); (case hp => exact (Reps.c2 (show Kd.M k51 _ _ _ (⟨(⟨#[33, 104, 33]⟩ : ByteArray), (⟨#[112, 58]⟩ : ByteArray)⟩ : S51) [.string (⟨#[33, 104, 33]⟩ : ByteArray), .string (⟨#[112, 58]⟩ : ByteArray)] from (k51_mkM _ _ _ (⟨(⟨#[33, 104, 33]⟩ : ByteArray), (⟨#[112, 58]⟩ : ByteArray)⟩ : S51) )) (Reps.none _ _))); intro v168 w21 ho22 hb hg_ hnew_; clear hg_ hnew_; (first | rw [← Ny167.out] at ho22 | (simp only [Int.reduceToNat] at ho22; rw [← Ny167.out] at ho22)); have n0_ := Aside0.mk (Kd.R_lower ho22 (below_size (by repeat (first | (with_reducible first | exact HB.out | apply below_alloc | apply pw_below_drewN | apply below_drew1) | exact HB.out)))); have n1_ := Aside0.mk (below_step (by repeat (first | (with_reducible first | exact HB.out | apply below_alloc | apply pw_below_drewN | apply below_drew1) | exact HB.out)) hb); clear HB; have HO169 := n0_; have HB := n1_; clear n0_ n1_; clear hb ho22; obtain ⟨Ao23, co23, eo23⟩ := Kd.R_slice HO169.out; subst eo23) | ((with_reducible refine gate_callee (f := 28) rfl ?_); refine goesL_ (some 41) rfl rfl Try.func28 (by kernel_rfl) rfl #[.string ((⟨#[33, 104, 33]⟩ : ByteArray) ++ x3_3), .slice Ao23 y167.length co23] rfl (by (try simp only [List.map_toArray, List.map_cons, List.map_nil]); first | done | rfl | (simp only [List.length_drop, List.length_take]; rfl)) ?_; (with_reducible refine (impl_TagRead.calls kj3 ((⟨#[33, 104, 33]⟩ : ByteArray) ++ x3_3) _ _ y167 t170 true _ ?side1 ?side2 A13.out).mono ?_); (case side1 => repeat (first | exact (Kd.R_reads' HO169.out).2.2 | (with_reducible refine Kd.C_alloc ?_ _) | (with_reducible refine Kd.C_drewN ?_ _) | (with_reducible refine Kd.C_drew ?_))); (case side2 => exact (Kd.R_reads' HO169.out).2.1); rintro e w24 ⟨rfl, hb⟩; refine ⟨_, rfl, ?_⟩; have n0_ := Aside0.mk (Kd.R_below (by (with_reducible repeat (first | apply Kd.R_alloc | apply Kd.R_drewN | apply Kd.R_drew)); exact HO169.out) hb); have n1_ := Aside0.mk (below_step (by repeat (first | (with_reducible first | exact HB.out | apply below_alloc | apply pw_below_drewN | apply below_drew1) | exact HB.out)) hb); clear HO169; clear HB; have HO169 := n0_; have HB := n1_; clear n0_ n1_; (try clear hb); (try clear hb2); (try clear hk); (try clear hi)) | ((with_reducible refine gate_callee (f := 28) rfl ?_); refine goesL_ (some 47) rfl rfl Try.func28 (by kernel_rfl) rfl #[.string ((⟨#[33, 103, 33]⟩ : ByteArray) ++ x3_3), .slice none 0 0] rfl (by (try simp only [List.map_toArray, List.map_cons, List.map_nil]); first | done | rfl | (simp only [List.length_drop, List.length_take]; rfl)) ?_; (refine (impl_TagRead.calls kj3 ((⟨#[33, 103, 33]⟩ : ByteArray) ++ x3_3) _ _ ([] : List (S51)) t172 true _ ?side1 ?side2 A14.out).mono ?_); (case side1 => exact Kd.C_nil _ _); (case side2 => exact Nat.le_refl _); rintro e w25 ⟨rfl, hb⟩; refine ⟨_, rfl, ?_⟩; have n0_ := Aside0.mk (Kd.R_below (by (with_reducible repeat (first | apply Kd.R_alloc | apply Kd.R_drewN | apply Kd.R_drew)); exact HO169.out) hb); have n1_ := Aside0.mk (below_step (by repeat (first | (with_reducible first | exact HB.out | apply below_alloc | apply pw_below_drewN | apply below_drew1) | exact HB.out)) hb); clear HO169; clear HB; have HO169 := n0_; have HB := n1_; clear n0_ n1_; (try clear hb); (try clear hb2); (try clear hk); (try clear hi)))
                        go_ret
                        exact ⟨by first | rfl | (simp [errW_none, errW_some] <;> rfl) | (simp [*, errW_none, errW_some] <;> rfl), by repeat (first | (with_reducible first | exact HB.out | apply below_alloc | apply pw_below_drewN | apply below_drew1) | exact HB.out)⟩
                      · replace c18 := Bool.eq_false_iff.mpr c18
                        subst c18
                        have H1 : (if t163 = ((((⟨#[33, 60]⟩ : ByteArray) ++ x3_3) ++ (⟨#[62]⟩ : ByteArray)).size : Int) then (if t162.toList = (((⟨#[33, 60]⟩ : ByteArray) ++ x3_3) ++ (⟨#[62]⟩ : ByteArray)).toList then (if t165.toList = x3_3.toList then (if t170.toList = ((⟨#[112, 58]⟩ : ByteArray) ++ x3_3).toList then ((impl_HandleOk.f kj3 (⟨#[33, 104, 33]⟩ : ByteArray) (⟨#[112, 58]⟩ : ByteArray)).bind fun t174 => (some t174)) else (some false)) else (some false)) else (some false)) else (some false)) = some r := by rw [if_neg (show ¬ (false = true) by decide)] at H; exact H
                        clear H
                        have H := H1
                        clear H1
                        by_cases c26 : t163 = ((((⟨#[33, 60]⟩ : ByteArray) ++ x3_3) ++ (⟨#[62]⟩ : ByteArray)).size : Int)
                        · rw [if_pos c26] at H
                          have c26b0 : (t163 == ((((⟨#[33, 60]⟩ : ByteArray) ++ x3_3) ++ (⟨#[62]⟩ : ByteArray)).size : Int)) = true := beq_iff_eq.mpr c26
                          have c26b6 : (t163 = 2 + (x3_3.size : Int) + 1) = True := eq_true (by have q := c26; simp only [ByteArray.size_append] at q; exact q)
                          have c26b1 : (t163 != ((((⟨#[33, 60]⟩ : ByteArray) ++ x3_3) ++ (⟨#[62]⟩ : ByteArray)).size : Int)) = false := bne_eq_false_iff_eq.mpr c26
                          clear c26
                          by_cases c27 : t162.toList = (((⟨#[33, 60]⟩ : ByteArray) ++ x3_3) ++ (⟨#[62]⟩ : ByteArray)).toList
                          · rw [if_pos c27] at H
                            have c27b0 : (t162.toList == (((⟨#[33, 60]⟩ : ByteArray) ++ x3_3) ++ (⟨#[62]⟩ : ByteArray)).toList) = true := beq_iff_eq.mpr c27
                            have c27b1 : (t162.toList != (((⟨#[33, 60]⟩ : ByteArray) ++ x3_3) ++ (⟨#[62]⟩ : ByteArray)).toList) = false := bne_eq_false_iff_eq.mpr c27
                            clear c27
                            by_cases c28 : t165.toList = x3_3.toList
                            · rw [if_pos c28] at H
                              have c28b0 : (t165.toList == x3_3.toList) = true := beq_iff_eq.mpr c28
                              have c28b1 : (t165.toList != x3_3.toList) = false := bne_eq_false_iff_eq.mpr c28
                              clear c28
                              by_cases c29 : t170.toList = ((⟨#[112, 58]⟩ : ByteArray) ++ x3_3).toList
                              · rw [if_pos c29] at H
                                have c29b0 : (t170.toList == ((⟨#[112, 58]⟩ : ByteArray) ++ x3_3).toList) = true := beq_iff_eq.mpr c29
                                have c29b1 : (t170.toList != ((⟨#[112, 58]⟩ : ByteArray) ++ x3_3).toList) = false := bne_eq_false_iff_eq.mpr c29
                                clear c29
                                replace H := Option.bind_eq_some_iff.mp H
                                obtain ⟨t174, A300, H⟩ := H
                                replace H : (some t174) = some r := H
                                have A30 := Aside0.mk A300
                                clear A300
                                obtain rfl := Option.some.inj H
                                go_wp2_with (first | ((with_reducible refine gate_callee (f := 27) rfl ?_); refine goesL_ (some 27) rfl rfl Try.func27 (by kernel_rfl) rfl #[.string ((((⟨#[33, 60]⟩ : ByteArray) ++ x3_3) ++ (⟨#[62]⟩ : ByteArray)) ++ (⟨#[32, 120]⟩ : ByteArray)), .int .i64 0] rfl (by (try simp only [List.map_toArray, List.map_cons, List.map_nil]); first | done | rfl | (simp only [List.length_drop, List.length_take]; rfl)) ?_; (with_reducible refine (impl_TagAt.calls kj3 ((((⟨#[33, 60]⟩ : ByteArray) ++ x3_3) ++ (⟨#[62]⟩ : ByteArray)) ++ (⟨#[32, 120]⟩ : ByteArray)) 0 t162 t163 true _ A10.out).mono ?_); rintro e w31 ⟨rfl, hb⟩; refine ⟨_, rfl, ?_⟩; have n0_ := Aside0.mk (below_step (by repeat (first | (with_reducible first | exact HB.out | apply below_alloc | apply pw_below_drewN | apply below_drew1) | exact HB.out)) hb); clear HB; have HB := n0_; clear n0_; (try clear hb); (try clear hb2); (try clear hk); (try clear hi)) | ((with_reducible refine gate_callee (f := 28) rfl ?_); refine goesL_ (some 33) rfl rfl Try.func28 (by kernel_rfl) rfl #[.string t162, .slice none 0 0] rfl (by (try simp only [List.map_toArray, List.map_cons, List.map_nil]); first | done | rfl | (simp only [List.length_drop, List.length_take]; rfl)) ?_; (refine (impl_TagRead.calls kj3 t162 _ _ ([] : List (S51)) t165 true _ ?side1 ?side2 A11.out).mono ?_); (case side1 => exact Kd.C_nil _ _); (case side2 => exact Nat.le_refl _); rintro e w32 ⟨rfl, hb⟩; refine ⟨_, rfl, ?_⟩; have n0_ := Aside0.mk (below_step (by repeat (first | (with_reducible first | exact HB.out | apply below_alloc | apply pw_below_drewN | apply below_drew1) | exact HB.out)) hb); clear HB; have HB := n0_; clear n0_; (try clear hb); (try clear hb2); (try clear hk); (try clear hi)) | ((with_reducible refine gate_dst (N := 40) rfl ?_); (try (refine gate_guard (by rfl) ?_; dsimp only)); refine Kd.R_lit k51 _ 51 ?hg (N := 40) ?hd (xs := ([(⟨(⟨#[33, 104, 33]⟩ : ByteArray), (⟨#[112, 58]⟩ : ByteArray)⟩ : S51)] : List (S51))) (inner := [.string (⟨#[33, 104, 33]⟩ : ByteArray), .string (⟨#[112, 58]⟩ : ByteArray)]) (ok := fun _ => True) (okp := fun _ => True) ?hr ?hp (fun _ hk => hk) trivial (Below.refl _ _) (Nat.le_refl _) (by simp) ?_; (case hd => rfl); (case hg => rfl); (case hr => first | (go_simp; done) | (go_simp; rfl)); (case hp => exact (Reps.c2 (show Kd.M k51 _ _ _ (⟨(⟨#[33, 104, 33]⟩ : ByteArray), (⟨#[112, 58]⟩ : ByteArray)⟩ : S51) [.string (⟨#[33, 104, 33]⟩ : ByteArray), .string (⟨#[112, 58]⟩ : ByteArray)] from (k51_mkM _ _ _ (⟨(⟨#[33, 104, 33]⟩ : ByteArray), (⟨#[112, 58]⟩ : ByteArray)⟩ : S51) )) (Reps.none _ _))); intro v168 w33 ho34 hb hg_ hnew_; clear hg_ hnew_; (first | rw [← Ny167.out] at ho34 | (simp only [Int.reduceToNat] at ho34; rw [← Ny167.out] at ho34)); have n0_ := Aside0.mk (Kd.R_lower ho34 (below_size (by repeat (first | (with_reducible first | exact HB.out | apply below_alloc | apply pw_below_drewN | apply below_drew1) | exact HB.out)))); have n1_ := Aside0.mk (below_step (by repeat (first | (with_reducible first | exact HB.out | apply below_alloc | apply pw_below_drewN | apply below_drew1) | exact HB.out)) hb); clear HB; have HO169 := n0_; have HB := n1_; clear n0_ n1_; clear hb ho34; obtain ⟨Ao35, co35, eo35⟩ := Kd.R_slice HO169.out; subst eo35) | ((with_reducible refine gate_callee (f := 28) rfl ?_); refine goesL_ (some 41) rfl rfl Try.func28 (by kernel_rfl) rfl #[.string ((⟨#[33, 104, 33]⟩ : ByteArray) ++ x3_3), .slice Ao35 y167.length co35] rfl (by (try simp only [List.map_toArray, List.map_cons, List.map_nil]); first | done | rfl | (simp only [List.length_drop, List.length_take]; rfl)) ?_; (with_reducible refine (impl_TagRead.calls kj3 ((⟨#[33, 104, 33]⟩ : ByteArray) ++ x3_3) _ _ y167 t170 true _ ?side1 ?side2 A13.out).mono ?_); (case side1 => repeat (first | exact (Kd.R_reads' HO169.out).2.2 | (with_reducible refine Kd.C_alloc ?_ _) | (with_reducible refine Kd.C_drewN ?_ _) | (with_reducible refine Kd.C_drew ?_))); (case side2 => exact (Kd.R_reads' HO169.out).2.1); rintro e w36 ⟨rfl, hb⟩; refine ⟨_, rfl, ?_⟩; have n0_ := Aside0.mk (Kd.R_below (by (with_reducible repeat (first | apply Kd.R_alloc | apply Kd.R_drewN | apply Kd.R_drew)); exact HO169.out) hb); have n1_ := Aside0.mk (below_step (by repeat (first | (with_reducible first | exact HB.out | apply below_alloc | apply pw_below_drewN | apply below_drew1) | exact HB.out)) hb); clear HO169; clear HB; have HO169 := n0_; have HB := n1_; clear n0_ n1_; (try clear hb); (try clear hb2); (try clear hk); (try clear hi)) | ((with_reducible refine gate_callee (f := 28) rfl ?_); refine goesL_ (some 47) rfl rfl Try.func28 (by kernel_rfl) rfl #[.string ((⟨#[33, 103, 33]⟩ : ByteArray) ++ x3_3), .slice none 0 0] rfl (by (try simp only [List.map_toArray, List.map_cons, List.map_nil]); first | done | rfl | (simp only [List.length_drop, List.length_take]; rfl)) ?_; (refine (impl_TagRead.calls kj3 ((⟨#[33, 103, 33]⟩ : ByteArray) ++ x3_3) _ _ ([] : List (S51)) t172 false _ ?side1 ?side2 A14.out).mono ?_); (case side1 => exact Kd.C_nil _ _); (case side2 => exact Nat.le_refl _); rintro e w37 ⟨rfl, hb⟩; refine ⟨_, rfl, ?_⟩; have n0_ := Aside0.mk (Kd.R_below (by (with_reducible repeat (first | apply Kd.R_alloc | apply Kd.R_drewN | apply Kd.R_drew)); exact HO169.out) hb); have n1_ := Aside0.mk (below_step (by repeat (first | (with_reducible first | exact HB.out | apply below_alloc | apply pw_below_drewN | apply below_drew1) | exact HB.out)) hb); clear HO169; clear HB; have HO169 := n0_; have HB := n1_; clear n0_ n1_; (try clear hb); (try clear hb2); (try clear hk); (try clear hi)) | (go_at_call 29; (with_reducible refine (impl_HandleOk.calls kj3 (⟨#[33, 104, 33]⟩ : ByteArray) (⟨#[112, 58]⟩ : ByteArray) t174 _ A30.out).mono ?_); rintro e w38 ⟨rfl, hb⟩; have n0_ := Aside0.mk (Kd.R_below (by (with_reducible repeat (first | apply Kd.R_alloc | apply Kd.R_drewN | apply Kd.R_drew)); exact HO169.out) hb); have n1_ := Aside0.mk (below_step (by repeat (first | (with_reducible first | exact HB.out | apply below_alloc | apply pw_below_drewN | apply below_drew1) | exact HB.out)) hb); clear HO169; clear HB; have HO169 := n0_; have HB := n1_; clear n0_ n1_; (try clear hb); (try clear hb2); (try clear hk); (try clear hi)))
                                go_ret
                                exact ⟨by first | rfl | (simp [errW_none, errW_some] <;> rfl) | (simp [*, errW_none, errW_some] <;> rfl), by repeat (first | (with_reducible first | exact HB.out | apply below_alloc | apply pw_below_drewN | apply below_drew1) | exact HB.out)⟩
                              · rw [if_neg c29] at H
                                have c29b0 : (t170.toList == ((⟨#[112, 58]⟩ : ByteArray) ++ x3_3).toList) = false := beq_eq_false_iff_ne.mpr c29
                                have c29b1 : (t170.toList != ((⟨#[112, 58]⟩ : ByteArray) ++ x3_3).toList) = true := bne_iff_ne.mpr c29
                                obtain rfl := Option.some.inj H
                                go_wp2_with (first | ((with_reducible refine gate_callee (f := 27) rfl ?_); refine goesL_ (some 27) rfl rfl Try.func27 (by kernel_rfl) rfl #[.string ((((⟨#[33, 60]⟩ : ByteArray) ++ x3_3) ++ (⟨#[62]⟩ : ByteArray)) ++ (⟨#[32, 120]⟩ : ByteArray)), .int .i64 0] rfl (by (try simp only [List.map_toArray, List.map_cons, List.map_nil]); first | done | rfl | (simp only [List.length_drop, List.length_take]; rfl)) ?_; (with_reducible refine (impl_TagAt.calls kj3 ((((⟨#[33, 60]⟩ : ByteArray) ++ x3_3) ++ (⟨#[62]⟩ : ByteArray)) ++ (⟨#[32, 120]⟩ : ByteArray)) 0 t162 t163 true _ A10.out).mono ?_); rintro e w39 ⟨rfl, hb⟩; refine ⟨_, rfl, ?_⟩; have n0_ := Aside0.mk (below_step (by repeat (first | (with_reducible first | exact HB.out | apply below_alloc | apply pw_below_drewN | apply below_drew1) | exact HB.out)) hb); clear HB; have HB := n0_; clear n0_; (try clear hb); (try clear hb2); (try clear hk); (try clear hi)) | ((with_reducible refine gate_callee (f := 28) rfl ?_); refine goesL_ (some 33) rfl rfl Try.func28 (by kernel_rfl) rfl #[.string t162, .slice none 0 0] rfl (by (try simp only [List.map_toArray, List.map_cons, List.map_nil]); first | done | rfl | (simp only [List.length_drop, List.length_take]; rfl)) ?_; (refine (impl_TagRead.calls kj3 t162 _ _ ([] : List (S51)) t165 true _ ?side1 ?side2 A11.out).mono ?_); (case side1 => exact Kd.C_nil _ _); (case side2 => exact Nat.le_refl _); rintro e w40 ⟨rfl, hb⟩; refine ⟨_, rfl, ?_⟩; have n0_ := Aside0.mk (below_step (by repeat (first | (with_reducible first | exact HB.out | apply below_alloc | apply pw_below_drewN | apply below_drew1) | exact HB.out)) hb); clear HB; have HB := n0_; clear n0_; (try clear hb); (try clear hb2); (try clear hk); (try clear hi)) | ((with_reducible refine gate_dst (N := 40) rfl ?_); (try (refine gate_guard (by rfl) ?_; dsimp only)); refine Kd.R_lit k51 _ 51 ?hg (N := 40) ?hd (xs := ([(⟨(⟨#[33, 104, 33]⟩ : ByteArray), (⟨#[112, 58]⟩ : ByteArray)⟩ : S51)] : List (S51))) (inner := [.string (⟨#[33, 104, 33]⟩ : ByteArray), .string (⟨#[112, 58]⟩ : ByteArray)]) (ok := fun _ => True) (okp := fun _ => True) ?hr ?hp (fun _ hk => hk) trivial (Below.refl _ _) (Nat.le_refl _) (by simp) ?_; (case hd => rfl); (case hg => rfl); (case hr => first | (go_simp; done) | (go_simp; rfl)); (case hp => exact (Reps.c2 (show Kd.M k51 _ _ _ (⟨(⟨#[33, 104, 33]⟩ : ByteArray), (⟨#[112, 58]⟩ : ByteArray)⟩ : S51) [.string (⟨#[33, 104, 33]⟩ : ByteArray), .string (⟨#[112, 58]⟩ : ByteArray)] from (k51_mkM _ _ _ (⟨(⟨#[33, 104, 33]⟩ : ByteArray), (⟨#[112, 58]⟩ : ByteArray)⟩ : S51) )) (Reps.none _ _))); intro v168 w41 ho42 hb hg_ hnew_; clear hg_ hnew_; (first | rw [← Ny167.out] at ho42 | (simp only [Int.reduceToNat] at ho42; rw [← Ny167.out] at ho42)); have n0_ := Aside0.mk (Kd.R_lower ho42 (below_size (by repeat (first | (with_reducible first | exact HB.out | apply below_alloc | apply pw_below_drewN | apply below_drew1) | exact HB.out)))); have n1_ := Aside0.mk (below_step (by repeat (first | (with_reducible first | exact HB.out | apply below_alloc | apply pw_below_drewN | apply below_drew1) | exact HB.out)) hb); clear HB; have HO169 := n0_; have HB := n1_; clear n0_ n1_; clear hb ho42; obtain ⟨Ao43, co43, eo43⟩ := Kd.R_slice HO169.out; subst eo43) | ((with_reducible refine gate_callee (f := 28) rfl ?_); refine goesL_ (some 41) rfl rfl Try.func28 (by kernel_rfl) rfl #[.string ((⟨#[33, 104, 33]⟩ : ByteArray) ++ x3_3), .slice Ao43 y167.length co43] rfl (by (try simp only [List.map_toArray, List.map_cons, List.map_nil]); first | done | rfl | (simp only [List.length_drop, List.length_take]; rfl)) ?_; (with_reducible refine (impl_TagRead.calls kj3 ((⟨#[33, 104, 33]⟩ : ByteArray) ++ x3_3) _ _ y167 t170 true _ ?side1 ?side2 A13.out).mono ?_); (case side1 => repeat (first | exact (Kd.R_reads' HO169.out).2.2 | (with_reducible refine Kd.C_alloc ?_ _) | (with_reducible refine Kd.C_drewN ?_ _) | (with_reducible refine Kd.C_drew ?_))); (case side2 => exact (Kd.R_reads' HO169.out).2.1); rintro e w44 ⟨rfl, hb⟩; refine ⟨_, rfl, ?_⟩; have n0_ := Aside0.mk (Kd.R_below (by (with_reducible repeat (first | apply Kd.R_alloc | apply Kd.R_drewN | apply Kd.R_drew)); exact HO169.out) hb); have n1_ := Aside0.mk (below_step (by repeat (first | (with_reducible first | exact HB.out | apply below_alloc | apply pw_below_drewN | apply below_drew1) | exact HB.out)) hb); clear HO169; clear HB; have HO169 := n0_; have HB := n1_; clear n0_ n1_; (try clear hb); (try clear hb2); (try clear hk); (try clear hi)) | ((with_reducible refine gate_callee (f := 28) rfl ?_); refine goesL_ (some 47) rfl rfl Try.func28 (by kernel_rfl) rfl #[.string ((⟨#[33, 103, 33]⟩ : ByteArray) ++ x3_3), .slice none 0 0] rfl (by (try simp only [List.map_toArray, List.map_cons, List.map_nil]); first | done | rfl | (simp only [List.length_drop, List.length_take]; rfl)) ?_; (refine (impl_TagRead.calls kj3 ((⟨#[33, 103, 33]⟩ : ByteArray) ++ x3_3) _ _ ([] : List (S51)) t172 false _ ?side1 ?side2 A14.out).mono ?_); (case side1 => exact Kd.C_nil _ _); (case side2 => exact Nat.le_refl _); rintro e w45 ⟨rfl, hb⟩; refine ⟨_, rfl, ?_⟩; have n0_ := Aside0.mk (Kd.R_below (by (with_reducible repeat (first | apply Kd.R_alloc | apply Kd.R_drewN | apply Kd.R_drew)); exact HO169.out) hb); have n1_ := Aside0.mk (below_step (by repeat (first | (with_reducible first | exact HB.out | apply below_alloc | apply pw_below_drewN | apply below_drew1) | exact HB.out)) hb); clear HO169; clear HB; have HO169 := n0_; have HB := n1_; clear n0_ n1_; (try clear hb); (try clear hb2); (try clear hk); (try clear hi)))
                                go_ret
                                exact ⟨by first | rfl | (simp [errW_none, errW_some] <;> rfl) | (simp [*, errW_none, errW_some] <;> rfl), by repeat (first | (with_reducible first | exact HB.out | apply below_alloc | apply pw_below_drewN | apply below_drew1) | exact HB.out)⟩
                            · rw [if_neg c28] at H
                              have c28b0 : (t165.toList == x3_3.toList) = false := beq_eq_false_iff_ne.mpr c28
                              have c28b1 : (t165.toList != x3_3.toList) = true := bne_iff_ne.mpr c28
                              obtain rfl := Option.some.inj H
                              go_wp2_with (first | ((with_reducible refine gate_callee (f := 27) rfl ?_); refine goesL_ (some 27) rfl rfl Try.func27 (by kernel_rfl) rfl #[.string ((((⟨#[33, 60]⟩ : ByteArray) ++ x3_3) ++ (⟨#[62]⟩ : ByteArray)) ++ (⟨#[32, 120]⟩ : ByteArray)), .int .i64 0] rfl (by (try simp only [List.map_toArray, List.map_cons, List.map_nil]); first | done | rfl | (simp only [List.length_drop, List.length_take]; rfl)) ?_; (with_reducible refine (impl_TagAt.calls kj3 ((((⟨#[33, 60]⟩ : ByteArray) ++ x3_3) ++ (⟨#[62]⟩ : ByteArray)) ++ (⟨#[32, 120]⟩ : ByteArray)) 0 t162 t163 true _ A10.out).mono ?_); rintro e w46 ⟨rfl, hb⟩; refine ⟨_, rfl, ?_⟩; have n0_ := Aside0.mk (below_step (by repeat (first | (with_reducible first | exact HB.out | apply below_alloc | apply pw_below_drewN | apply below_drew1) | exact HB.out)) hb); clear HB; have HB := n0_; clear n0_; (try clear hb); (try clear hb2); (try clear hk); (try clear hi)) | ((with_reducible refine gate_callee (f := 28) rfl ?_); refine goesL_ (some 33) rfl rfl Try.func28 (by kernel_rfl) rfl #[.string t162, .slice none 0 0] rfl (by (try simp only [List.map_toArray, List.map_cons, List.map_nil]); first | done | rfl | (simp only [List.length_drop, List.length_take]; rfl)) ?_; (refine (impl_TagRead.calls kj3 t162 _ _ ([] : List (S51)) t165 true _ ?side1 ?side2 A11.out).mono ?_); (case side1 => exact Kd.C_nil _ _); (case side2 => exact Nat.le_refl _); rintro e w47 ⟨rfl, hb⟩; refine ⟨_, rfl, ?_⟩; have n0_ := Aside0.mk (below_step (by repeat (first | (with_reducible first | exact HB.out | apply below_alloc | apply pw_below_drewN | apply below_drew1) | exact HB.out)) hb); clear HB; have HB := n0_; clear n0_; (try clear hb); (try clear hb2); (try clear hk); (try clear hi)) | ((with_reducible refine gate_dst (N := 40) rfl ?_); (try (refine gate_guard (by rfl) ?_; dsimp only)); refine Kd.R_lit k51 _ 51 ?hg (N := 40) ?hd (xs := ([(⟨(⟨#[33, 104, 33]⟩ : ByteArray), (⟨#[112, 58]⟩ : ByteArray)⟩ : S51)] : List (S51))) (inner := [.string (⟨#[33, 104, 33]⟩ : ByteArray), .string (⟨#[112, 58]⟩ : ByteArray)]) (ok := fun _ => True) (okp := fun _ => True) ?hr ?hp (fun _ hk => hk) trivial (Below.refl _ _) (Nat.le_refl _) (by simp) ?_; (case hd => rfl); (case hg => rfl); (case hr => first | (go_simp; done) | (go_simp; rfl)); (case hp => exact (Reps.c2 (show Kd.M k51 _ _ _ (⟨(⟨#[33, 104, 33]⟩ : ByteArray), (⟨#[112, 58]⟩ : ByteArray)⟩ : S51) [.string (⟨#[33, 104, 33]⟩ : ByteArray), .string (⟨#[112, 58]⟩ : ByteArray)] from (k51_mkM _ _ _ (⟨(⟨#[33, 104, 33]⟩ : ByteArray), (⟨#[112, 58]⟩ : ByteArray)⟩ : S51) )) (Reps.none _ _))); intro v168 w48 ho49 hb hg_ hnew_; clear hg_ hnew_; (first | rw [← Ny167.out] at ho49 | (simp only [Int.reduceToNat] at ho49; rw [← Ny167.out] at ho49)); have n0_ := Aside0.mk (Kd.R_lower ho49 (below_size (by repeat (first | (with_reducible first | exact HB.out | apply below_alloc | apply pw_below_drewN | apply below_drew1) | exact HB.out)))); have n1_ := Aside0.mk (below_step (by repeat (first | (with_reducible first | exact HB.out | apply below_alloc | apply pw_below_drewN | apply below_drew1) | exact HB.out)) hb); clear HB; have HO169 := n0_; have HB := n1_; clear n0_ n1_; clear hb ho49; obtain ⟨Ao50, co50, eo50⟩ := Kd.R_slice HO169.out; subst eo50) | ((with_reducible refine gate_callee (f := 28) rfl ?_); refine goesL_ (some 41) rfl rfl Try.func28 (by kernel_rfl) rfl #[.string ((⟨#[33, 104, 33]⟩ : ByteArray) ++ x3_3), .slice Ao50 y167.length co50] rfl (by (try simp only [List.map_toArray, List.map_cons, List.map_nil]); first | done | rfl | (simp only [List.length_drop, List.length_take]; rfl)) ?_; (with_reducible refine (impl_TagRead.calls kj3 ((⟨#[33, 104, 33]⟩ : ByteArray) ++ x3_3) _ _ y167 t170 true _ ?side1 ?side2 A13.out).mono ?_); (case side1 => repeat (first | exact (Kd.R_reads' HO169.out).2.2 | (with_reducible refine Kd.C_alloc ?_ _) | (with_reducible refine Kd.C_drewN ?_ _) | (with_reducible refine Kd.C_drew ?_))); (case side2 => exact (Kd.R_reads' HO169.out).2.1); rintro e w51 ⟨rfl, hb⟩; refine ⟨_, rfl, ?_⟩; have n0_ := Aside0.mk (Kd.R_below (by (with_reducible repeat (first | apply Kd.R_alloc | apply Kd.R_drewN | apply Kd.R_drew)); exact HO169.out) hb); have n1_ := Aside0.mk (below_step (by repeat (first | (with_reducible first | exact HB.out | apply below_alloc | apply pw_below_drewN | apply below_drew1) | exact HB.out)) hb); clear HO169; clear HB; have HO169 := n0_; have HB := n1_; clear n0_ n1_; (try clear hb); (try clear hb2); (try clear hk); (try clear hi)) | ((with_reducible refine gate_callee (f := 28) rfl ?_); refine goesL_ (some 47) rfl rfl Try.func28 (by kernel_rfl) rfl #[.string ((⟨#[33, 103, 33]⟩ : ByteArray) ++ x3_3), .slice none 0 0] rfl (by (try simp only [List.map_toArray, List.map_cons, List.map_nil]); first | done | rfl | (simp only [List.length_drop, List.length_take]; rfl)) ?_; (refine (impl_TagRead.calls kj3 ((⟨#[33, 103, 33]⟩ : ByteArray) ++ x3_3) _ _ ([] : List (S51)) t172 false _ ?side1 ?side2 A14.out).mono ?_); (case side1 => exact Kd.C_nil _ _); (case side2 => exact Nat.le_refl _); rintro e w52 ⟨rfl, hb⟩; refine ⟨_, rfl, ?_⟩; have n0_ := Aside0.mk (Kd.R_below (by (with_reducible repeat (first | apply Kd.R_alloc | apply Kd.R_drewN | apply Kd.R_drew)); exact HO169.out) hb); have n1_ := Aside0.mk (below_step (by repeat (first | (with_reducible first | exact HB.out | apply below_alloc | apply pw_below_drewN | apply below_drew1) | exact HB.out)) hb); clear HO169; clear HB; have HO169 := n0_; have HB := n1_; clear n0_ n1_; (try clear hb); (try clear hb2); (try clear hk); (try clear hi)))
                              go_ret
                              exact ⟨by first | rfl | (simp [errW_none, errW_some] <;> rfl) | (simp [*, errW_none, errW_some] <;> rfl), by repeat (first | (with_reducible first | exact HB.out | apply below_alloc | apply pw_below_drewN | apply below_drew1) | exact HB.out)⟩
                          · rw [if_neg c27] at H
                            have c27b0 : (t162.toList == (((⟨#[33, 60]⟩ : ByteArray) ++ x3_3) ++ (⟨#[62]⟩ : ByteArray)).toList) = false := beq_eq_false_iff_ne.mpr c27
                            have c27b1 : (t162.toList != (((⟨#[33, 60]⟩ : ByteArray) ++ x3_3) ++ (⟨#[62]⟩ : ByteArray)).toList) = true := bne_iff_ne.mpr c27
                            obtain rfl := Option.some.inj H
                            go_wp2_with (first | ((with_reducible refine gate_callee (f := 27) rfl ?_); refine goesL_ (some 27) rfl rfl Try.func27 (by kernel_rfl) rfl #[.string ((((⟨#[33, 60]⟩ : ByteArray) ++ x3_3) ++ (⟨#[62]⟩ : ByteArray)) ++ (⟨#[32, 120]⟩ : ByteArray)), .int .i64 0] rfl (by (try simp only [List.map_toArray, List.map_cons, List.map_nil]); first | done | rfl | (simp only [List.length_drop, List.length_take]; rfl)) ?_; (with_reducible refine (impl_TagAt.calls kj3 ((((⟨#[33, 60]⟩ : ByteArray) ++ x3_3) ++ (⟨#[62]⟩ : ByteArray)) ++ (⟨#[32, 120]⟩ : ByteArray)) 0 t162 t163 true _ A10.out).mono ?_); rintro e w53 ⟨rfl, hb⟩; refine ⟨_, rfl, ?_⟩; have n0_ := Aside0.mk (below_step (by repeat (first | (with_reducible first | exact HB.out | apply below_alloc | apply pw_below_drewN | apply below_drew1) | exact HB.out)) hb); clear HB; have HB := n0_; clear n0_; (try clear hb); (try clear hb2); (try clear hk); (try clear hi)) | ((with_reducible refine gate_callee (f := 28) rfl ?_); refine goesL_ (some 33) rfl rfl Try.func28 (by kernel_rfl) rfl #[.string t162, .slice none 0 0] rfl (by (try simp only [List.map_toArray, List.map_cons, List.map_nil]); first | done | rfl | (simp only [List.length_drop, List.length_take]; rfl)) ?_; (refine (impl_TagRead.calls kj3 t162 _ _ ([] : List (S51)) t165 true _ ?side1 ?side2 A11.out).mono ?_); (case side1 => exact Kd.C_nil _ _); (case side2 => exact Nat.le_refl _); rintro e w54 ⟨rfl, hb⟩; refine ⟨_, rfl, ?_⟩; have n0_ := Aside0.mk (below_step (by repeat (first | (with_reducible first | exact HB.out | apply below_alloc | apply pw_below_drewN | apply below_drew1) | exact HB.out)) hb); clear HB; have HB := n0_; clear n0_; (try clear hb); (try clear hb2); (try clear hk); (try clear hi)) | ((with_reducible refine gate_dst (N := 40) rfl ?_); (try (refine gate_guard (by rfl) ?_; dsimp only)); refine Kd.R_lit k51 _ 51 ?hg (N := 40) ?hd (xs := ([(⟨(⟨#[33, 104, 33]⟩ : ByteArray), (⟨#[112, 58]⟩ : ByteArray)⟩ : S51)] : List (S51))) (inner := [.string (⟨#[33, 104, 33]⟩ : ByteArray), .string (⟨#[112, 58]⟩ : ByteArray)]) (ok := fun _ => True) (okp := fun _ => True) ?hr ?hp (fun _ hk => hk) trivial (Below.refl _ _) (Nat.le_refl _) (by simp) ?_; (case hd => rfl); (case hg => rfl); (case hr => first | (go_simp; done) | (go_simp; rfl)); (case hp => exact (Reps.c2 (show Kd.M k51 _ _ _ (⟨(⟨#[33, 104, 33]⟩ : ByteArray), (⟨#[112, 58]⟩ : ByteArray)⟩ : S51) [.string (⟨#[33, 104, 33]⟩ : ByteArray), .string (⟨#[112, 58]⟩ : ByteArray)] from (k51_mkM _ _ _ (⟨(⟨#[33, 104, 33]⟩ : ByteArray), (⟨#[112, 58]⟩ : ByteArray)⟩ : S51) )) (Reps.none _ _))); intro v168 w55 ho56 hb hg_ hnew_; clear hg_ hnew_; (first | rw [← Ny167.out] at ho56 | (simp only [Int.reduceToNat] at ho56; rw [← Ny167.out] at ho56)); have n0_ := Aside0.mk (Kd.R_lower ho56 (below_size (by repeat (first | (with_reducible first | exact HB.out | apply below_alloc | apply pw_below_drewN | apply below_drew1) | exact HB.out)))); have n1_ := Aside0.mk (below_step (by repeat (first | (with_reducible first | exact HB.out | apply below_alloc | apply pw_below_drewN | apply below_drew1) | exact HB.out)) hb); clear HB; have HO169 := n0_; have HB := n1_; clear n0_ n1_; clear hb ho56; obtain ⟨Ao57, co57, eo57⟩ := Kd.R_slice HO169.out; subst eo57) | ((with_reducible refine gate_callee (f := 28) rfl ?_); refine goesL_ (some 41) rfl rfl Try.func28 (by kernel_rfl) rfl #[.string ((⟨#[33, 104, 33]⟩ : ByteArray) ++ x3_3), .slice Ao57 y167.length co57] rfl (by (try simp only [List.map_toArray, List.map_cons, List.map_nil]); first | done | rfl | (simp only [List.length_drop, List.length_take]; rfl)) ?_; (with_reducible refine (impl_TagRead.calls kj3 ((⟨#[33, 104, 33]⟩ : ByteArray) ++ x3_3) _ _ y167 t170 true _ ?side1 ?side2 A13.out).mono ?_); (case side1 => repeat (first | exact (Kd.R_reads' HO169.out).2.2 | (with_reducible refine Kd.C_alloc ?_ _) | (with_reducible refine Kd.C_drewN ?_ _) | (with_reducible refine Kd.C_drew ?_))); (case side2 => exact (Kd.R_reads' HO169.out).2.1); rintro e w58 ⟨rfl, hb⟩; refine ⟨_, rfl, ?_⟩; have n0_ := Aside0.mk (Kd.R_below (by (with_reducible repeat (first | apply Kd.R_alloc | apply Kd.R_drewN | apply Kd.R_drew)); exact HO169.out) hb); have n1_ := Aside0.mk (below_step (by repeat (first | (with_reducible first | exact HB.out | apply below_alloc | apply pw_below_drewN | apply below_drew1) | exact HB.out)) hb); clear HO169; clear HB; have HO169 := n0_; have HB := n1_; clear n0_ n1_; (try clear hb); (try clear hb2); (try clear hk); (try clear hi)) | ((with_reducible refine gate_callee (f := 28) rfl ?_); refine goesL_ (some 47) rfl rfl Try.func28 (by kernel_rfl) rfl #[.string ((⟨#[33, 103, 33]⟩ : ByteArray) ++ x3_3), .slice none 0 0] rfl (by (try simp only [List.map_toArray, List.map_cons, List.map_nil]); first | done | rfl | (simp only [List.length_drop, List.length_take]; rfl)) ?_; (refine (impl_TagRead.calls kj3 ((⟨#[33, 103, 33]⟩ : ByteArray) ++ x3_3) _ _ ([] : List (S51)) t172 false _ ?side1 ?side2 A14.out).mono ?_); (case side1 => exact Kd.C_nil _ _); (case side2 => exact Nat.le_refl _); rintro e w59 ⟨rfl, hb⟩; refine ⟨_, rfl, ?_⟩; have n0_ := Aside0.mk (Kd.R_below (by (with_reducible repeat (first | apply Kd.R_alloc | apply Kd.R_drewN | apply Kd.R_drew)); exact HO169.out) hb); have n1_ := Aside0.mk (below_step (by repeat (first | (with_reducible first | exact HB.out | apply below_alloc | apply pw_below_drewN | apply below_drew1) | exact HB.out)) hb); clear HO169; clear HB; have HO169 := n0_; have HB := n1_; clear n0_ n1_; (try clear hb); (try clear hb2); (try clear hk); (try clear hi)))
                            go_ret
                            exact ⟨by first | rfl | (simp [errW_none, errW_some] <;> rfl) | (simp [*, errW_none, errW_some] <;> rfl), by repeat (first | (with_reducible first | exact HB.out | apply below_alloc | apply pw_below_drewN | apply below_drew1) | exact HB.out)⟩
                        · rw [if_neg c26] at H
                          have c26b0 : (t163 == ((((⟨#[33, 60]⟩ : ByteArray) ++ x3_3) ++ (⟨#[62]⟩ : ByteArray)).size : Int)) = false := beq_eq_false_iff_ne.mpr c26
                          have c26b6 : (t163 = 2 + (x3_3.size : Int) + 1) = False := eq_false (by have q := c26; simp only [ByteArray.size_append] at q; exact q)
                          have c26b1 : (t163 != ((((⟨#[33, 60]⟩ : ByteArray) ++ x3_3) ++ (⟨#[62]⟩ : ByteArray)).size : Int)) = true := bne_iff_ne.mpr c26
                          obtain rfl := Option.some.inj H
                          go_wp2_with (first | ((with_reducible refine gate_callee (f := 27) rfl ?_); refine goesL_ (some 27) rfl rfl Try.func27 (by kernel_rfl) rfl #[.string ((((⟨#[33, 60]⟩ : ByteArray) ++ x3_3) ++ (⟨#[62]⟩ : ByteArray)) ++ (⟨#[32, 120]⟩ : ByteArray)), .int .i64 0] rfl (by (try simp only [List.map_toArray, List.map_cons, List.map_nil]); first | done | rfl | (simp only [List.length_drop, List.length_take]; rfl)) ?_; (with_reducible refine (impl_TagAt.calls kj3 ((((⟨#[33, 60]⟩ : ByteArray) ++ x3_3) ++ (⟨#[62]⟩ : ByteArray)) ++ (⟨#[32, 120]⟩ : ByteArray)) 0 t162 t163 true _ A10.out).mono ?_); rintro e w60 ⟨rfl, hb⟩; refine ⟨_, rfl, ?_⟩; have n0_ := Aside0.mk (below_step (by repeat (first | (with_reducible first | exact HB.out | apply below_alloc | apply pw_below_drewN | apply below_drew1) | exact HB.out)) hb); clear HB; have HB := n0_; clear n0_; (try clear hb); (try clear hb2); (try clear hk); (try clear hi)) | ((with_reducible refine gate_callee (f := 28) rfl ?_); refine goesL_ (some 33) rfl rfl Try.func28 (by kernel_rfl) rfl #[.string t162, .slice none 0 0] rfl (by (try simp only [List.map_toArray, List.map_cons, List.map_nil]); first | done | rfl | (simp only [List.length_drop, List.length_take]; rfl)) ?_; (refine (impl_TagRead.calls kj3 t162 _ _ ([] : List (S51)) t165 true _ ?side1 ?side2 A11.out).mono ?_); (case side1 => exact Kd.C_nil _ _); (case side2 => exact Nat.le_refl _); rintro e w61 ⟨rfl, hb⟩; refine ⟨_, rfl, ?_⟩; have n0_ := Aside0.mk (below_step (by repeat (first | (with_reducible first | exact HB.out | apply below_alloc | apply pw_below_drewN | apply below_drew1) | exact HB.out)) hb); clear HB; have HB := n0_; clear n0_; (try clear hb); (try clear hb2); (try clear hk); (try clear hi)) | ((with_reducible refine gate_dst (N := 40) rfl ?_); (try (refine gate_guard (by rfl) ?_; dsimp only)); refine Kd.R_lit k51 _ 51 ?hg (N := 40) ?hd (xs := ([(⟨(⟨#[33, 104, 33]⟩ : ByteArray), (⟨#[112, 58]⟩ : ByteArray)⟩ : S51)] : List (S51))) (inner := [.string (⟨#[33, 104, 33]⟩ : ByteArray), .string (⟨#[112, 58]⟩ : ByteArray)]) (ok := fun _ => True) (okp := fun _ => True) ?hr ?hp (fun _ hk => hk) trivial (Below.refl _ _) (Nat.le_refl _) (by simp) ?_; (case hd => rfl); (case hg => rfl); (case hr => first | (go_simp; done) | (go_simp; rfl)); (case hp => exact (Reps.c2 (show Kd.M k51 _ _ _ (⟨(⟨#[33, 104, 33]⟩ : ByteArray), (⟨#[112, 58]⟩ : ByteArray)⟩ : S51) [.string (⟨#[33, 104, 33]⟩ : ByteArray), .string (⟨#[112, 58]⟩ : ByteArray)] from (k51_mkM _ _ _ (⟨(⟨#[33, 104, 33]⟩ : ByteArray), (⟨#[112, 58]⟩ : ByteArray)⟩ : S51) )) (Reps.none _ _))); intro v168 w62 ho63 hb hg_ hnew_; clear hg_ hnew_; (first | rw [← Ny167.out] at ho63 | (simp only [Int.reduceToNat] at ho63; rw [← Ny167.out] at ho63)); have n0_ := Aside0.mk (Kd.R_lower ho63 (below_size (by repeat (first | (with_reducible first | exact HB.out | apply below_alloc | apply pw_below_drewN | apply below_drew1) | exact HB.out)))); have n1_ := Aside0.mk (below_step (by repeat (first | (with_reducible first | exact HB.out | apply below_alloc | apply pw_below_drewN | apply below_drew1) | exact HB.out)) hb); clear HB; have HO169 := n0_; have HB := n1_; clear n0_ n1_; clear hb ho63; obtain ⟨Ao64, co64, eo64⟩ := Kd.R_slice HO169.out; subst eo64) | ((with_reducible refine gate_callee (f := 28) rfl ?_); refine goesL_ (some 41) rfl rfl Try.func28 (by kernel_rfl) rfl #[.string ((⟨#[33, 104, 33]⟩ : ByteArray) ++ x3_3), .slice Ao64 y167.length co64] rfl (by (try simp only [List.map_toArray, List.map_cons, List.map_nil]); first | done | rfl | (simp only [List.length_drop, List.length_take]; rfl)) ?_; (with_reducible refine (impl_TagRead.calls kj3 ((⟨#[33, 104, 33]⟩ : ByteArray) ++ x3_3) _ _ y167 t170 true _ ?side1 ?side2 A13.out).mono ?_); (case side1 => repeat (first | exact (Kd.R_reads' HO169.out).2.2 | (with_reducible refine Kd.C_alloc ?_ _) | (with_reducible refine Kd.C_drewN ?_ _) | (with_reducible refine Kd.C_drew ?_))); (case side2 => exact (Kd.R_reads' HO169.out).2.1); rintro e w65 ⟨rfl, hb⟩; refine ⟨_, rfl, ?_⟩; have n0_ := Aside0.mk (Kd.R_below (by (with_reducible repeat (first | apply Kd.R_alloc | apply Kd.R_drewN | apply Kd.R_drew)); exact HO169.out) hb); have n1_ := Aside0.mk (below_step (by repeat (first | (with_reducible first | exact HB.out | apply below_alloc | apply pw_below_drewN | apply below_drew1) | exact HB.out)) hb); clear HO169; clear HB; have HO169 := n0_; have HB := n1_; clear n0_ n1_; (try clear hb); (try clear hb2); (try clear hk); (try clear hi)) | ((with_reducible refine gate_callee (f := 28) rfl ?_); refine goesL_ (some 47) rfl rfl Try.func28 (by kernel_rfl) rfl #[.string ((⟨#[33, 103, 33]⟩ : ByteArray) ++ x3_3), .slice none 0 0] rfl (by (try simp only [List.map_toArray, List.map_cons, List.map_nil]); first | done | rfl | (simp only [List.length_drop, List.length_take]; rfl)) ?_; (refine (impl_TagRead.calls kj3 ((⟨#[33, 103, 33]⟩ : ByteArray) ++ x3_3) _ _ ([] : List (S51)) t172 false _ ?side1 ?side2 A14.out).mono ?_); (case side1 => exact Kd.C_nil _ _); (case side2 => exact Nat.le_refl _); rintro e w66 ⟨rfl, hb⟩; refine ⟨_, rfl, ?_⟩; have n0_ := Aside0.mk (Kd.R_below (by (with_reducible repeat (first | apply Kd.R_alloc | apply Kd.R_drewN | apply Kd.R_drew)); exact HO169.out) hb); have n1_ := Aside0.mk (below_step (by repeat (first | (with_reducible first | exact HB.out | apply below_alloc | apply pw_below_drewN | apply below_drew1) | exact HB.out)) hb); clear HO169; clear HB; have HO169 := n0_; have HB := n1_; clear n0_ n1_; (try clear hb); (try clear hb2); (try clear hk); (try clear hi)))
                          go_ret
                          exact ⟨by first | rfl | (simp [errW_none, errW_some] <;> rfl) | (simp [*, errW_none, errW_some] <;> rfl), by repeat (first | (with_reducible first | exact HB.out | apply below_alloc | apply pw_below_drewN | apply below_drew1) | exact HB.out)⟩
                    · replace c17 := Bool.eq_false_iff.mpr c17
                      subst c17
                      have H1 : (some false) = some r := by rw [if_neg (show ¬ (false = true) by decide)] at H; exact H
                      clear H
                      have H := H1
                      clear H1
                      obtain rfl := Option.some.inj H
                      go_wp2_with (first | ((with_reducible refine gate_callee (f := 27) rfl ?_); refine goesL_ (some 27) rfl rfl Try.func27 (by kernel_rfl) rfl #[.string ((((⟨#[33, 60]⟩ : ByteArray) ++ x3_3) ++ (⟨#[62]⟩ : ByteArray)) ++ (⟨#[32, 120]⟩ : ByteArray)), .int .i64 0] rfl (by (try simp only [List.map_toArray, List.map_cons, List.map_nil]); first | done | rfl | (simp only [List.length_drop, List.length_take]; rfl)) ?_; (with_reducible refine (impl_TagAt.calls kj3 ((((⟨#[33, 60]⟩ : ByteArray) ++ x3_3) ++ (⟨#[62]⟩ : ByteArray)) ++ (⟨#[32, 120]⟩ : ByteArray)) 0 t162 t163 true _ A10.out).mono ?_); rintro e w67 ⟨rfl, hb⟩; refine ⟨_, rfl, ?_⟩; have n0_ := Aside0.mk (below_step (by repeat (first | (with_reducible first | exact HB.out | apply below_alloc | apply pw_below_drewN | apply below_drew1) | exact HB.out)) hb); clear HB; have HB := n0_; clear n0_; (try clear hb); (try clear hb2); (try clear hk); (try clear hi)) | ((with_reducible refine gate_callee (f := 28) rfl ?_); refine goesL_ (some 33) rfl rfl Try.func28 (by kernel_rfl) rfl #[.string t162, .slice none 0 0] rfl (by (try simp only [List.map_toArray, List.map_cons, List.map_nil]); first | done | rfl | (simp only [List.length_drop, List.length_take]; rfl)) ?_; (refine (impl_TagRead.calls kj3 t162 _ _ ([] : List (S51)) t165 true _ ?side1 ?side2 A11.out).mono ?_); (case side1 => exact Kd.C_nil _ _); (case side2 => exact Nat.le_refl _); rintro e w68 ⟨rfl, hb⟩; refine ⟨_, rfl, ?_⟩; have n0_ := Aside0.mk (below_step (by repeat (first | (with_reducible first | exact HB.out | apply below_alloc | apply pw_below_drewN | apply below_drew1) | exact HB.out)) hb); clear HB; have HB := n0_; clear n0_; (try clear hb); (try clear hb2); (try clear hk); (try clear hi)) | ((with_reducible refine gate_dst (N := 40) rfl ?_); (try (refine gate_guard (by rfl) ?_; dsimp only)); refine Kd.R_lit k51 _ 51 ?hg (N := 40) ?hd (xs := ([(⟨(⟨#[33, 104, 33]⟩ : ByteArray), (⟨#[112, 58]⟩ : ByteArray)⟩ : S51)] : List (S51))) (inner := [.string (⟨#[33, 104, 33]⟩ : ByteArray), .string (⟨#[112, 58]⟩ : ByteArray)]) (ok := fun _ => True) (okp := fun _ => True) ?hr ?hp (fun _ hk => hk) trivial (Below.refl _ _) (Nat.le_refl _) (by simp) ?_; (case hd => rfl); (case hg => rfl); (case hr => first | (go_simp; done) | (go_simp; rfl)); (case hp => exact (Reps.c2 (show Kd.M k51 _ _ _ (⟨(⟨#[33, 104, 33]⟩ : ByteArray), (⟨#[112, 58]⟩ : ByteArray)⟩ : S51) [.string (⟨#[33, 104, 33]⟩ : ByteArray), .string (⟨#[112, 58]⟩ : ByteArray)] from (k51_mkM _ _ _ (⟨(⟨#[33, 104, 33]⟩ : ByteArray), (⟨#[112, 58]⟩ : ByteArray)⟩ : S51) )) (Reps.none _ _))); intro v168 w69 ho70 hb hg_ hnew_; clear hg_ hnew_; (first | rw [← Ny167.out] at ho70 | (simp only [Int.reduceToNat] at ho70; rw [← Ny167.out] at ho70)); have n0_ := Aside0.mk (Kd.R_lower ho70 (below_size (by repeat (first | (with_reducible first | exact HB.out | apply below_alloc | apply pw_below_drewN | apply below_drew1) | exact HB.out)))); have n1_ := Aside0.mk (below_step (by repeat (first | (with_reducible first | exact HB.out | apply below_alloc | apply pw_below_drewN | apply below_drew1) | exact HB.out)) hb); clear HB; have HO169 := n0_; have HB := n1_; clear n0_ n1_; clear hb ho70; obtain ⟨Ao71, co71, eo71⟩ := Kd.R_slice HO169.out; subst eo71) | ((with_reducible refine gate_callee (f := 28) rfl ?_); refine goesL_ (some 41) rfl rfl Try.func28 (by kernel_rfl) rfl #[.string ((⟨#[33, 104, 33]⟩ : ByteArray) ++ x3_3), .slice Ao71 y167.length co71] rfl (by (try simp only [List.map_toArray, List.map_cons, List.map_nil]); first | done | rfl | (simp only [List.length_drop, List.length_take]; rfl)) ?_; (with_reducible refine (impl_TagRead.calls kj3 ((⟨#[33, 104, 33]⟩ : ByteArray) ++ x3_3) _ _ y167 t170 false _ ?side1 ?side2 A13.out).mono ?_); (case side1 => repeat (first | exact (Kd.R_reads' HO169.out).2.2 | (with_reducible refine Kd.C_alloc ?_ _) | (with_reducible refine Kd.C_drewN ?_ _) | (with_reducible refine Kd.C_drew ?_))); (case side2 => exact (Kd.R_reads' HO169.out).2.1); rintro e w72 ⟨rfl, hb⟩; refine ⟨_, rfl, ?_⟩; have n0_ := Aside0.mk (Kd.R_below (by (with_reducible repeat (first | apply Kd.R_alloc | apply Kd.R_drewN | apply Kd.R_drew)); exact HO169.out) hb); have n1_ := Aside0.mk (below_step (by repeat (first | (with_reducible first | exact HB.out | apply below_alloc | apply pw_below_drewN | apply below_drew1) | exact HB.out)) hb); clear HO169; clear HB; have HO169 := n0_; have HB := n1_; clear n0_ n1_; (try clear hb); (try clear hb2); (try clear hk); (try clear hi)) | ((with_reducible refine gate_callee (f := 28) rfl ?_); refine goesL_ (some 47) rfl rfl Try.func28 (by kernel_rfl) rfl #[.string ((⟨#[33, 103, 33]⟩ : ByteArray) ++ x3_3), .slice none 0 0] rfl (by (try simp only [List.map_toArray, List.map_cons, List.map_nil]); first | done | rfl | (simp only [List.length_drop, List.length_take]; rfl)) ?_; (refine (impl_TagRead.calls kj3 ((⟨#[33, 103, 33]⟩ : ByteArray) ++ x3_3) _ _ ([] : List (S51)) t172 t173 _ ?side1 ?side2 A14.out).mono ?_); (case side1 => exact Kd.C_nil _ _); (case side2 => exact Nat.le_refl _); rintro e w73 ⟨rfl, hb⟩; refine ⟨_, rfl, ?_⟩; have n0_ := Aside0.mk (Kd.R_below (by (with_reducible repeat (first | apply Kd.R_alloc | apply Kd.R_drewN | apply Kd.R_drew)); exact HO169.out) hb); have n1_ := Aside0.mk (below_step (by repeat (first | (with_reducible first | exact HB.out | apply below_alloc | apply pw_below_drewN | apply below_drew1) | exact HB.out)) hb); clear HO169; clear HB; have HO169 := n0_; have HB := n1_; clear n0_ n1_; (try clear hb); (try clear hb2); (try clear hk); (try clear hi)))
                      go_ret
                      exact ⟨by first | rfl | (simp [errW_none, errW_some] <;> rfl) | (simp [*, errW_none, errW_some] <;> rfl), by repeat (first | (with_reducible first | exact HB.out | apply below_alloc | apply pw_below_drewN | apply below_drew1) | exact HB.out)⟩
                  · replace c16 := Bool.eq_false_iff.mpr c16
                    subst c16
                    have H1 : (some false) = some r := by rw [if_neg (show ¬ (false = true) by decide)] at H; exact H
                    clear H
                    have H := H1
                    clear H1
                    obtain rfl := Option.some.inj H
                    go_wp2_with (first | ((with_reducible refine gate_callee (f := 27) rfl ?_); refine goesL_ (some 27) rfl rfl Try.func27 (by kernel_rfl) rfl #[.string ((((⟨#[33, 60]⟩ : ByteArray) ++ x3_3) ++ (⟨#[62]⟩ : ByteArray)) ++ (⟨#[32, 120]⟩ : ByteArray)), .int .i64 0] rfl (by (try simp only [List.map_toArray, List.map_cons, List.map_nil]); first | done | rfl | (simp only [List.length_drop, List.length_take]; rfl)) ?_; (with_reducible refine (impl_TagAt.calls kj3 ((((⟨#[33, 60]⟩ : ByteArray) ++ x3_3) ++ (⟨#[62]⟩ : ByteArray)) ++ (⟨#[32, 120]⟩ : ByteArray)) 0 t162 t163 true _ A10.out).mono ?_); rintro e w74 ⟨rfl, hb⟩; refine ⟨_, rfl, ?_⟩; have n0_ := Aside0.mk (below_step (by repeat (first | (with_reducible first | exact HB.out | apply below_alloc | apply pw_below_drewN | apply below_drew1) | exact HB.out)) hb); clear HB; have HB := n0_; clear n0_; (try clear hb); (try clear hb2); (try clear hk); (try clear hi)) | ((with_reducible refine gate_callee (f := 28) rfl ?_); refine goesL_ (some 33) rfl rfl Try.func28 (by kernel_rfl) rfl #[.string t162, .slice none 0 0] rfl (by (try simp only [List.map_toArray, List.map_cons, List.map_nil]); first | done | rfl | (simp only [List.length_drop, List.length_take]; rfl)) ?_; (refine (impl_TagRead.calls kj3 t162 _ _ ([] : List (S51)) t165 false _ ?side1 ?side2 A11.out).mono ?_); (case side1 => exact Kd.C_nil _ _); (case side2 => exact Nat.le_refl _); rintro e w75 ⟨rfl, hb⟩; refine ⟨_, rfl, ?_⟩; have n0_ := Aside0.mk (below_step (by repeat (first | (with_reducible first | exact HB.out | apply below_alloc | apply pw_below_drewN | apply below_drew1) | exact HB.out)) hb); clear HB; have HB := n0_; clear n0_; (try clear hb); (try clear hb2); (try clear hk); (try clear hi)) | ((with_reducible refine gate_dst (N := 40) rfl ?_); (try (refine gate_guard (by rfl) ?_; dsimp only)); refine Kd.R_lit k51 _ 51 ?hg (N := 40) ?hd (xs := ([(⟨(⟨#[33, 104, 33]⟩ : ByteArray), (⟨#[112, 58]⟩ : ByteArray)⟩ : S51)] : List (S51))) (inner := [.string (⟨#[33, 104, 33]⟩ : ByteArray), .string (⟨#[112, 58]⟩ : ByteArray)]) (ok := fun _ => True) (okp := fun _ => True) ?hr ?hp (fun _ hk => hk) trivial (Below.refl _ _) (Nat.le_refl _) (by simp) ?_; (case hd => rfl); (case hg => rfl); (case hr => first | (go_simp; done) | (go_simp; rfl)); (case hp => exact (Reps.c2 (show Kd.M k51 _ _ _ (⟨(⟨#[33, 104, 33]⟩ : ByteArray), (⟨#[112, 58]⟩ : ByteArray)⟩ : S51) [.string (⟨#[33, 104, 33]⟩ : ByteArray), .string (⟨#[112, 58]⟩ : ByteArray)] from (k51_mkM _ _ _ (⟨(⟨#[33, 104, 33]⟩ : ByteArray), (⟨#[112, 58]⟩ : ByteArray)⟩ : S51) )) (Reps.none _ _))); intro v168 w76 ho77 hb hg_ hnew_; clear hg_ hnew_; (first | rw [← Ny167.out] at ho77 | (simp only [Int.reduceToNat] at ho77; rw [← Ny167.out] at ho77)); have n0_ := Aside0.mk (Kd.R_lower ho77 (below_size (by repeat (first | (with_reducible first | exact HB.out | apply below_alloc | apply pw_below_drewN | apply below_drew1) | exact HB.out)))); have n1_ := Aside0.mk (below_step (by repeat (first | (with_reducible first | exact HB.out | apply below_alloc | apply pw_below_drewN | apply below_drew1) | exact HB.out)) hb); clear HB; have HO169 := n0_; have HB := n1_; clear n0_ n1_; clear hb ho77; obtain ⟨Ao78, co78, eo78⟩ := Kd.R_slice HO169.out; subst eo78) | ((with_reducible refine gate_callee (f := 28) rfl ?_); refine goesL_ (some 41) rfl rfl Try.func28 (by kernel_rfl) rfl #[.string ((⟨#[33, 104, 33]⟩ : ByteArray) ++ x3_3), .slice Ao78 y167.length co78] rfl (by (try simp only [List.map_toArray, List.map_cons, List.map_nil]); first | done | rfl | (simp only [List.length_drop, List.length_take]; rfl)) ?_; (with_reducible refine (impl_TagRead.calls kj3 ((⟨#[33, 104, 33]⟩ : ByteArray) ++ x3_3) _ _ y167 t170 t171 _ ?side1 ?side2 A13.out).mono ?_); (case side1 => repeat (first | exact (Kd.R_reads' HO169.out).2.2 | (with_reducible refine Kd.C_alloc ?_ _) | (with_reducible refine Kd.C_drewN ?_ _) | (with_reducible refine Kd.C_drew ?_))); (case side2 => exact (Kd.R_reads' HO169.out).2.1); rintro e w79 ⟨rfl, hb⟩; refine ⟨_, rfl, ?_⟩; have n0_ := Aside0.mk (Kd.R_below (by (with_reducible repeat (first | apply Kd.R_alloc | apply Kd.R_drewN | apply Kd.R_drew)); exact HO169.out) hb); have n1_ := Aside0.mk (below_step (by repeat (first | (with_reducible first | exact HB.out | apply below_alloc | apply pw_below_drewN | apply below_drew1) | exact HB.out)) hb); clear HO169; clear HB; have HO169 := n0_; have HB := n1_; clear n0_ n1_; (try clear hb); (try clear hb2); (try clear hk); (try clear hi)) | ((with_reducible refine gate_callee (f := 28) rfl ?_); refine goesL_ (some 47) rfl rfl Try.func28 (by kernel_rfl) rfl #[.string ((⟨#[33, 103, 33]⟩ : ByteArray) ++ x3_3), .slice none 0 0] rfl (by (try simp only [List.map_toArray, List.map_cons, List.map_nil]); first | done | rfl | (simp only [List.length_drop, List.length_take]; rfl)) ?_; (refine (impl_TagRead.calls kj3 ((⟨#[33, 103, 33]⟩ : ByteArray) ++ x3_3) _ _ ([] : List (S51)) t172 t173 _ ?side1 ?side2 A14.out).mono ?_); (case side1 => exact Kd.C_nil _ _); (case side2 => exact Nat.le_refl _); rintro e w80 ⟨rfl, hb⟩; refine ⟨_, rfl, ?_⟩; have n0_ := Aside0.mk (Kd.R_below (by (with_reducible repeat (first | apply Kd.R_alloc | apply Kd.R_drewN | apply Kd.R_drew)); exact HO169.out) hb); have n1_ := Aside0.mk (below_step (by repeat (first | (with_reducible first | exact HB.out | apply below_alloc | apply pw_below_drewN | apply below_drew1) | exact HB.out)) hb); clear HO169; clear HB; have HO169 := n0_; have HB := n1_; clear n0_ n1_; (try clear hb); (try clear hb2); (try clear hk); (try clear hi)))
                    go_ret
                    exact ⟨by first | rfl | (simp [errW_none, errW_some] <;> rfl) | (simp [*, errW_none, errW_some] <;> rfl), by repeat (first | (with_reducible first | exact HB.out | apply below_alloc | apply pw_below_drewN | apply below_drew1) | exact HB.out)⟩
                · replace c15 := Bool.eq_false_iff.mpr c15
                  subst c15
                  have H1 : (some false) = some r := by rw [if_neg (show ¬ (false = true) by decide)] at H; exact H
                  clear H
                  have H := H1
                  clear H1
                  obtain rfl := Option.some.inj H
                  go_wp2_with (first | ((with_reducible refine gate_callee (f := 27) rfl ?_); refine goesL_ (some 27) rfl rfl Try.func27 (by kernel_rfl) rfl #[.string ((((⟨#[33, 60]⟩ : ByteArray) ++ x3_3) ++ (⟨#[62]⟩ : ByteArray)) ++ (⟨#[32, 120]⟩ : ByteArray)), .int .i64 0] rfl (by (try simp only [List.map_toArray, List.map_cons, List.map_nil]); first | done | rfl | (simp only [List.length_drop, List.length_take]; rfl)) ?_; (with_reducible refine (impl_TagAt.calls kj3 ((((⟨#[33, 60]⟩ : ByteArray) ++ x3_3) ++ (⟨#[62]⟩ : ByteArray)) ++ (⟨#[32, 120]⟩ : ByteArray)) 0 t162 t163 false _ A10.out).mono ?_); rintro e w81 ⟨rfl, hb⟩; refine ⟨_, rfl, ?_⟩; have n0_ := Aside0.mk (below_step (by repeat (first | (with_reducible first | exact HB.out | apply below_alloc | apply pw_below_drewN | apply below_drew1) | exact HB.out)) hb); clear HB; have HB := n0_; clear n0_; (try clear hb); (try clear hb2); (try clear hk); (try clear hi)) | ((with_reducible refine gate_callee (f := 28) rfl ?_); refine goesL_ (some 33) rfl rfl Try.func28 (by kernel_rfl) rfl #[.string t162, .slice none 0 0] rfl (by (try simp only [List.map_toArray, List.map_cons, List.map_nil]); first | done | rfl | (simp only [List.length_drop, List.length_take]; rfl)) ?_; (refine (impl_TagRead.calls kj3 t162 _ _ ([] : List (S51)) t165 t166 _ ?side1 ?side2 A11.out).mono ?_); (case side1 => exact Kd.C_nil _ _); (case side2 => exact Nat.le_refl _); rintro e w82 ⟨rfl, hb⟩; refine ⟨_, rfl, ?_⟩; have n0_ := Aside0.mk (below_step (by repeat (first | (with_reducible first | exact HB.out | apply below_alloc | apply pw_below_drewN | apply below_drew1) | exact HB.out)) hb); clear HB; have HB := n0_; clear n0_; (try clear hb); (try clear hb2); (try clear hk); (try clear hi)) | ((with_reducible refine gate_dst (N := 40) rfl ?_); (try (refine gate_guard (by rfl) ?_; dsimp only)); refine Kd.R_lit k51 _ 51 ?hg (N := 40) ?hd (xs := ([(⟨(⟨#[33, 104, 33]⟩ : ByteArray), (⟨#[112, 58]⟩ : ByteArray)⟩ : S51)] : List (S51))) (inner := [.string (⟨#[33, 104, 33]⟩ : ByteArray), .string (⟨#[112, 58]⟩ : ByteArray)]) (ok := fun _ => True) (okp := fun _ => True) ?hr ?hp (fun _ hk => hk) trivial (Below.refl _ _) (Nat.le_refl _) (by simp) ?_; (case hd => rfl); (case hg => rfl); (case hr => first | (go_simp; done) | (go_simp; rfl)); (case hp => exact (Reps.c2 (show Kd.M k51 _ _ _ (⟨(⟨#[33, 104, 33]⟩ : ByteArray), (⟨#[112, 58]⟩ : ByteArray)⟩ : S51) [.string (⟨#[33, 104, 33]⟩ : ByteArray), .string (⟨#[112, 58]⟩ : ByteArray)] from (k51_mkM _ _ _ (⟨(⟨#[33, 104, 33]⟩ : ByteArray), (⟨#[112, 58]⟩ : ByteArray)⟩ : S51) )) (Reps.none _ _))); intro v168 w83 ho84 hb hg_ hnew_; clear hg_ hnew_; (first | rw [← Ny167.out] at ho84 | (simp only [Int.reduceToNat] at ho84; rw [← Ny167.out] at ho84)); have n0_ := Aside0.mk (Kd.R_lower ho84 (below_size (by repeat (first | (with_reducible first | exact HB.out | apply below_alloc | apply pw_below_drewN | apply below_drew1) | exact HB.out)))); have n1_ := Aside0.mk (below_step (by repeat (first | (with_reducible first | exact HB.out | apply below_alloc | apply pw_below_drewN | apply below_drew1) | exact HB.out)) hb); clear HB; have HO169 := n0_; have HB := n1_; clear n0_ n1_; clear hb ho84; obtain ⟨Ao85, co85, eo85⟩ := Kd.R_slice HO169.out; subst eo85) | ((with_reducible refine gate_callee (f := 28) rfl ?_); refine goesL_ (some 41) rfl rfl Try.func28 (by kernel_rfl) rfl #[.string ((⟨#[33, 104, 33]⟩ : ByteArray) ++ x3_3), .slice Ao85 y167.length co85] rfl (by (try simp only [List.map_toArray, List.map_cons, List.map_nil]); first | done | rfl | (simp only [List.length_drop, List.length_take]; rfl)) ?_; (with_reducible refine (impl_TagRead.calls kj3 ((⟨#[33, 104, 33]⟩ : ByteArray) ++ x3_3) _ _ y167 t170 t171 _ ?side1 ?side2 A13.out).mono ?_); (case side1 => repeat (first | exact (Kd.R_reads' HO169.out).2.2 | (with_reducible refine Kd.C_alloc ?_ _) | (with_reducible refine Kd.C_drewN ?_ _) | (with_reducible refine Kd.C_drew ?_))); (case side2 => exact (Kd.R_reads' HO169.out).2.1); rintro e w86 ⟨rfl, hb⟩; refine ⟨_, rfl, ?_⟩; have n0_ := Aside0.mk (Kd.R_below (by (with_reducible repeat (first | apply Kd.R_alloc | apply Kd.R_drewN | apply Kd.R_drew)); exact HO169.out) hb); have n1_ := Aside0.mk (below_step (by repeat (first | (with_reducible first | exact HB.out | apply below_alloc | apply pw_below_drewN | apply below_drew1) | exact HB.out)) hb); clear HO169; clear HB; have HO169 := n0_; have HB := n1_; clear n0_ n1_; (try clear hb); (try clear hb2); (try clear hk); (try clear hi)) | ((with_reducible refine gate_callee (f := 28) rfl ?_); refine goesL_ (some 47) rfl rfl Try.func28 (by kernel_rfl) rfl #[.string ((⟨#[33, 103, 33]⟩ : ByteArray) ++ x3_3), .slice none 0 0] rfl (by (try simp only [List.map_toArray, List.map_cons, List.map_nil]); first | done | rfl | (simp only [List.length_drop, List.length_take]; rfl)) ?_; (refine (impl_TagRead.calls kj3 ((⟨#[33, 103, 33]⟩ : ByteArray) ++ x3_3) _ _ ([] : List (S51)) t172 t173 _ ?side1 ?side2 A14.out).mono ?_); (case side1 => exact Kd.C_nil _ _); (case side2 => exact Nat.le_refl _); rintro e w87 ⟨rfl, hb⟩; refine ⟨_, rfl, ?_⟩; have n0_ := Aside0.mk (Kd.R_below (by (with_reducible repeat (first | apply Kd.R_alloc | apply Kd.R_drewN | apply Kd.R_drew)); exact HO169.out) hb); have n1_ := Aside0.mk (below_step (by repeat (first | (with_reducible first | exact HB.out | apply below_alloc | apply pw_below_drewN | apply below_drew1) | exact HB.out)) hb); clear HO169; clear HB; have HO169 := n0_; have HB := n1_; clear n0_ n1_; (try clear hb); (try clear hb2); (try clear hk); (try clear hi)))
                  go_ret
                  exact ⟨by first | rfl | (simp [errW_none, errW_some] <;> rfl) | (simp [*, errW_none, errW_some] <;> rfl), by repeat (first | (with_reducible first | exact HB.out | apply below_alloc | apply pw_below_drewN | apply below_drew1) | exact HB.out)⟩
              · rw [if_neg c12] at H
                exact absurd H (by simp)
            · rw [if_neg c9] at H
              exact absurd H (by simp)
          · rw [if_neg c8] at H
            exact absurd H (by simp)
        · rw [if_neg c7] at H
          exact absurd H (by simp)

/-- THE ONE PURE STATEMENT of laws_FnTag: yours. -/
def laws_FnTag.Pure : Prop := ∀ (l0 : List Int), l0.length ≤ maxLen → l0.length * 1 ≤ 140737488351232 → (∀ x ∈ l0, (Lit.int .u8 x).wf = true) → ∃ k, laws_FnTag.f k l0 = some true
theorem laws_FnTag.walk (P : laws_FnTag.Pure) (a0 : Option Addr) (len0 cap0 : Nat) (z0 : List Int) (w : World) (w0 : (a0 = none ∧ len0 = 0 ∧ cap0 = 0 ∧ z0 = []) ∨ ∃ x, a0 = some x ∧ len0 ≤ cap0 ∧ cap0 ≤ maxLen ∧ z0.length = cap0 ∧ (∀ i, i < z0.length → w.cell? (x.add i) = some (.int .u8 (z0.getD i 0))) ∧ ∀ n ∈ z0, (Lit.int .u8 n).wf = true) (y0 : len0 * 1 ≤ 140737488351232) :
    Calls Try.prog 6 #[.slice a0 len0 cap0] w fun e w' => e = .returned (.bool true) ∧ Below w.heap.size w w' := by
  obtain ⟨l0, rfl, hr0, hm0, hw0, hc0⟩ := ReadsInt.ofRowC w0
  obtain ⟨k, h⟩ := P l0 hm0 y0 hw0
  refine (laws_FnTag.calls k _ _ l0 true w (Kd.C_of_reads (d := (0 : Int)) (h1 := fun _ => rfl) hr0) hc0 h).mono ?_
  rintro e w' ⟨rfl, hd⟩
  exact ⟨rfl, hd⟩

end Go.Proofs.Ytjbhflicehnocaa.PFnTag
