-- Written by a program of this session, out of the translation.
import Derived.Test.YtacmlggiklkbiaaPFnExactEventTextx0
import Derived.Test.YtacmlggiklkbiaaPFnExactEventTextx4
namespace Go.Proofs.Ytacmlggiklkbiaa.PFnExactEventText
open Go.RowKit Go.Proofs.YtacmlggiklkbiaaW.PrintWords Go.Proofs.YtacmlggiklkbiaaW.PrintLast Go.Proofs.YtacmlggiklkbiaaW.PrintMore
attribute [local go_sem] max2_int min2_int max_two min_two max_three min_three max_four min_four   -- for this text's walks alone
set_option linter.unusedVariables false
set_option linter.unusedSimpArgs false

/-! ### impl_isName: function 38 -/
def impl_isName.l0 : Nat → ByteArray → Int → Int → Option (Bool)
  | 0, _, _, _ => none
  | k + 1, x0, x9, x10 => if x10 < x9 then (if 0 ≤ x10 then (if x10 < (x0.size : Int) then ((impl_isWhite.f (wrap64 (bt x0 x10))).bind fun t131 => (if t131 = true then (some false) else ((impl_isBreak.f (wrap64 (bt x0 x10))).bind fun t132 => (if t132 = true then (some false) else ((impl_isFlow.f (wrap64 (bt x0 x10))).bind fun t133 => (if t133 = true then (some false) else (impl_isName.l0 k x0 x9 (wrap64 (x10 + 1))))))))) else (none)) else (none)) else (some true)
def impl_isName.f (k : Nat) (a0 : ByteArray) : Option (Bool) := if (a0.size : Int) > 60 then (some false) else (impl_isName.l0 k a0 (a0.size : Int) 0)
theorem impl_isName.mono_l : ∀ k, (∀ y0 y1 y2, LeO (impl_isName.l0 k y0 y1 y2) (impl_isName.l0 (k + 1) y0 y1 y2))
  | 0 => fun _ _ _ r h => by simp [impl_isName.l0] at h
  | k + 1 => by
    have ih0 := impl_isName.mono_l k
    · intro y0 y1 y2
      unfold impl_isName.l0
      repeat' first
      | (with_reducible exact ih0 _ _ _)
      | (with_reducible exact LeO.refl _)
      | (with_reducible exact LeO.none _)
      | (with_reducible refine LeO.ite ?_ ?_)
      | (with_reducible refine LeO.bind ?_ (fun _ => ?_))
      | exact ih0 _ _ _
      | exact LeO.none _
      | refine LeO.ite ?_ ?_
      | refine LeO.bind ?_ (fun _ => ?_)
theorem impl_isName.mono : ∀ a0 k, LeO (impl_isName.f k a0) (impl_isName.f (k + 1) a0) := by
  intro a0 k
  have ih0 := impl_isName.mono_l k
  unfold impl_isName.f
  repeat' first
      | (with_reducible exact ih0 _ _ _)
      | (with_reducible exact LeO.refl _)
      | (with_reducible exact LeO.none _)
      | (with_reducible refine LeO.ite ?_ ?_)
      | (with_reducible refine LeO.bind ?_ (fun _ => ?_))
      | exact ih0 _ _ _
      | exact LeO.none _
      | refine LeO.ite ?_ ?_
      | refine LeO.bind ?_ (fun _ => ?_)
set_option maxHeartbeats 8000000 in
set_option maxRecDepth 100000 in
theorem impl_isName.calls (k : Nat) (a0 : ByteArray) (r : Bool) (w : World) (h : impl_isName.f k a0 = some r) :
    Calls Try.prog 38 #[.string a0] w fun e w' => e = .returned (.bool r) ∧ Drawn0 w w' := by
  have H : (if (a0.size : Int) > 60 then (some false) else (impl_isName.l0 k a0 (a0.size : Int) 0)) = some r := h
  clear h
  by_cases c2 : (a0.size : Int) > 60
  · rw [if_pos c2] at H
    have c2b0 : decide (60 < (a0.size : Int)) = true := decide_eq_true c2
    have c2b1 : decide (60 < a0.size) = true := decide_eq_true (by omega)
    clear c2
    obtain rfl := Option.some.inj H
    go_enter Try.func38, Try.ntmps38
    go_wp2
    go_ret
    exact ⟨by first | rfl | (simp; done) | (simp [*]; done), by repeat (first | exact Drawn0.refl _ | apply Drawn0.step)⟩
  · rw [if_neg c2] at H
    have c2b0 : decide (60 < (a0.size : Int)) = false := decide_eq_false c2
    have c2b1 : decide (60 < a0.size) = false := decide_eq_false (by omega)
    clear c2
    have H' := Aside0.mk H
    clear H
    go_enter Try.func38, Try.ntmps38
    go_wp2
    go_loopg [10] k (fun kq v10 w' => ∃ (x10_1 : Int), v10 = .int .i64 x10_1 ∧ Aside0 (impl_isName.l0 kq a0 (a0.size : Int) x10_1 = some r) ∧ Aside0 (kq ≤ k) ∧ Drawn0 w w')
    case atStart => exact ⟨(0), (by first | rfl | (simp; done) | (simp [*]; done)), H', ⟨Nat.le_refl _⟩, by repeat (first | exact Drawn0.refl _ | apply Drawn0.step)⟩
    case round =>
      clear H'
      try clear c2
      try clear c2b0
      try clear c2b1
      try clear p2
      obtain ⟨x10_1, rfl, HA, HK1, ⟨m1, rfl⟩⟩ := hrel
      cases gk with
      | zero => exact absurd HA.out (by simp [impl_isName.l0])
      | succ k1 =>
        have H := HA.out
        clear HA
        simp only [impl_isName.l0] at H
        by_cases c3 : x10_1 < (a0.size : Int)
        · rw [if_pos c3] at H
          have c3b0 : decide (x10_1 < (a0.size : Int)) = true := decide_eq_true c3
          clear c3
          by_cases c4 : 0 ≤ x10_1
          · rw [if_pos c4] at H
            have c4b0 : decide (0 ≤ x10_1) = true := decide_eq_true c4
            clear c4
            by_cases c5 : x10_1 < (a0.size : Int)
            · rw [if_pos c5] at H
              have c5b0 : decide (x10_1 < (a0.size : Int)) = true := decide_eq_true c5
              clear c5
              replace H := Option.bind_eq_some_iff.mp H
              obtain ⟨t131, A70, H⟩ := H
              replace H : (if t131 = true then (some false) else ((impl_isBreak.f (wrap64 (bt a0 x10_1))).bind fun t132 => (if t132 = true then (some false) else ((impl_isFlow.f (wrap64 (bt a0 x10_1))).bind fun t133 => (if t133 = true then (some false) else (impl_isName.l0 k1 a0 (a0.size : Int) (wrap64 (x10_1 + 1)))))))) = some r := H
              have A7 := Aside0.mk A70
              clear A70
              by_cases c8 : t131 = true
              · subst c8
                have H1 : (some false) = some r := by rw [if_pos rfl] at H; exact H
                clear H
                have H := H1
                clear H1
                obtain rfl := Option.some.inj H
                have p6 : 0 ≤ (x10_1 : Int) := of_decide_eq_true (by first | (with_reducible assumption) | assumption)
                have q6 : x10_1 < (a0.size : Int) := of_decide_eq_true (by first | (with_reducible assumption) | assumption)
                have hx6 := bt_at a0 x10_1
                replace p6 := eq_true p6
                replace q6 := eq_true q6
                go_wp2_with (first | ((with_reducible refine gate_callee (f := 35) rfl ?_); refine goesL_ (some 18) rfl rfl Try.func35 (by kernel_rfl) rfl #[.int .i64 (wrap64 (bt a0 x10_1))] rfl (by (try simp only [List.map_toArray, List.map_cons, List.map_nil]); first | done | rfl | (simp only [List.length_drop, List.length_take]; rfl)) ?_; (with_reducible refine (impl_isWhite.calls (wrap64 (bt a0 x10_1)) true _ A7.out).mono ?_); rintro e w' ⟨rfl, ⟨nd, rfl⟩⟩; refine ⟨_, rfl, ?_⟩))
                go_ret
                exact ⟨by first | rfl | (simp; done) | (simp [*]; done), by repeat (first | exact Drawn0.refl _ | apply Drawn0.step)⟩
              · replace c8 := Bool.eq_false_iff.mpr c8
                subst c8
                have H1 : ((impl_isBreak.f (wrap64 (bt a0 x10_1))).bind fun t132 => (if t132 = true then (some false) else ((impl_isFlow.f (wrap64 (bt a0 x10_1))).bind fun t133 => (if t133 = true then (some false) else (impl_isName.l0 k1 a0 (a0.size : Int) (wrap64 (x10_1 + 1))))))) = some r := by rw [if_neg (show ¬ (false = true) by decide)] at H; exact H
                clear H
                have H := H1
                clear H1
                replace H := Option.bind_eq_some_iff.mp H
                obtain ⟨t132, A90, H⟩ := H
                replace H : (if t132 = true then (some false) else ((impl_isFlow.f (wrap64 (bt a0 x10_1))).bind fun t133 => (if t133 = true then (some false) else (impl_isName.l0 k1 a0 (a0.size : Int) (wrap64 (x10_1 + 1)))))) = some r := H
                have A9 := Aside0.mk A90
                clear A90
                by_cases c10 : t132 = true
                · subst c10
                  have H1 : (some false) = some r := by rw [if_pos rfl] at H; exact H
                  clear H
                  have H := H1
                  clear H1
                  obtain rfl := Option.some.inj H
                  have p6 : 0 ≤ (x10_1 : Int) := of_decide_eq_true (by first | (with_reducible assumption) | assumption)
                  have q6 : x10_1 < (a0.size : Int) := of_decide_eq_true (by first | (with_reducible assumption) | assumption)
                  have hx6 := bt_at a0 x10_1
                  replace p6 := eq_true p6
                  replace q6 := eq_true q6
                  go_wp2_with (first | ((with_reducible refine gate_callee (f := 35) rfl ?_); refine goesL_ (some 18) rfl rfl Try.func35 (by kernel_rfl) rfl #[.int .i64 (wrap64 (bt a0 x10_1))] rfl (by (try simp only [List.map_toArray, List.map_cons, List.map_nil]); first | done | rfl | (simp only [List.length_drop, List.length_take]; rfl)) ?_; (with_reducible refine (impl_isWhite.calls (wrap64 (bt a0 x10_1)) false _ A7.out).mono ?_); rintro e w' ⟨rfl, ⟨nd, rfl⟩⟩; refine ⟨_, rfl, ?_⟩) | (go_at_call 58; (with_reducible refine (impl_isBreak.calls (wrap64 (bt a0 x10_1)) true _ A9.out).mono ?_); rintro e w' ⟨rfl, ⟨nd, rfl⟩⟩))
                  go_ret
                  exact ⟨by first | rfl | (simp; done) | (simp [*]; done), by repeat (first | exact Drawn0.refl _ | apply Drawn0.step)⟩
                · replace c10 := Bool.eq_false_iff.mpr c10
                  subst c10
                  have H1 : ((impl_isFlow.f (wrap64 (bt a0 x10_1))).bind fun t133 => (if t133 = true then (some false) else (impl_isName.l0 k1 a0 (a0.size : Int) (wrap64 (x10_1 + 1))))) = some r := by rw [if_neg (show ¬ (false = true) by decide)] at H; exact H
                  clear H
                  have H := H1
                  clear H1
                  replace H := Option.bind_eq_some_iff.mp H
                  obtain ⟨t133, A110, H⟩ := H
                  replace H : (if t133 = true then (some false) else (impl_isName.l0 k1 a0 (a0.size : Int) (wrap64 (x10_1 + 1)))) = some r := H
                  have A11 := Aside0.mk A110
                  clear A110
                  by_cases c12 : t133 = true
                  · subst c12
                    have H1 : (some false) = some r := by rw [if_pos rfl] at H; exact H
                    clear H
                    have H := H1
                    clear H1
                    obtain rfl := Option.some.inj H
                    have p6 : 0 ≤ (x10_1 : Int) := of_decide_eq_true (by first | (with_reducible assumption) | assumption)
                    have q6 : x10_1 < (a0.size : Int) := of_decide_eq_true (by first | (with_reducible assumption) | assumption)
                    have hx6 := bt_at a0 x10_1
                    replace p6 := eq_true p6
                    replace q6 := eq_true q6
                    go_wp2_with (first | ((with_reducible refine gate_callee (f := 35) rfl ?_); refine goesL_ (some 18) rfl rfl Try.func35 (by kernel_rfl) rfl #[.int .i64 (wrap64 (bt a0 x10_1))] rfl (by (try simp only [List.map_toArray, List.map_cons, List.map_nil]); first | done | rfl | (simp only [List.length_drop, List.length_take]; rfl)) ?_; (with_reducible refine (impl_isWhite.calls (wrap64 (bt a0 x10_1)) false _ A7.out).mono ?_); rintro e w' ⟨rfl, ⟨nd, rfl⟩⟩; refine ⟨_, rfl, ?_⟩) | (go_at_call 58; (with_reducible refine (impl_isBreak.calls (wrap64 (bt a0 x10_1)) false _ A9.out).mono ?_); rintro e w' ⟨rfl, ⟨nd, rfl⟩⟩) | (go_at_call 59; (with_reducible refine (impl_isFlow.calls (wrap64 (bt a0 x10_1)) true _ A11.out).mono ?_); rintro e w' ⟨rfl, ⟨nd, rfl⟩⟩))
                    go_ret
                    exact ⟨by first | rfl | (simp; done) | (simp [*]; done), by repeat (first | exact Drawn0.refl _ | apply Drawn0.step)⟩
                  · replace c12 := Bool.eq_false_iff.mpr c12
                    subst c12
                    have H1 : (impl_isName.l0 k1 a0 (a0.size : Int) (wrap64 (x10_1 + 1))) = some r := by rw [if_neg (show ¬ (false = true) by decide)] at H; exact H
                    clear H
                    have H := H1
                    clear H1
                    have H' := Aside0.mk H
                    clear H
                    have p6 : 0 ≤ (x10_1 : Int) := of_decide_eq_true (by first | (with_reducible assumption) | assumption)
                    have q6 : x10_1 < (a0.size : Int) := of_decide_eq_true (by first | (with_reducible assumption) | assumption)
                    have hx6 := bt_at a0 x10_1
                    replace p6 := eq_true p6
                    replace q6 := eq_true q6
                    go_wp2_with (first | ((with_reducible refine gate_callee (f := 35) rfl ?_); refine goesL_ (some 18) rfl rfl Try.func35 (by kernel_rfl) rfl #[.int .i64 (wrap64 (bt a0 x10_1))] rfl (by (try simp only [List.map_toArray, List.map_cons, List.map_nil]); first | done | rfl | (simp only [List.length_drop, List.length_take]; rfl)) ?_; (with_reducible refine (impl_isWhite.calls (wrap64 (bt a0 x10_1)) false _ A7.out).mono ?_); rintro e w' ⟨rfl, ⟨nd, rfl⟩⟩; refine ⟨_, rfl, ?_⟩) | (go_at_call 58; (with_reducible refine (impl_isBreak.calls (wrap64 (bt a0 x10_1)) false _ A9.out).mono ?_); rintro e w' ⟨rfl, ⟨nd, rfl⟩⟩) | (go_at_call 59; (with_reducible refine (impl_isFlow.calls (wrap64 (bt a0 x10_1)) false _ A11.out).mono ?_); rintro e w' ⟨rfl, ⟨nd, rfl⟩⟩))
                    go_roundg k1
                    case measure => have := HK1.out; omega
                    case rel => exact ⟨(wrap64 (x10_1 + 1)), (by first | rfl | (simp; done) | (simp [*]; done)), H', ⟨by have := HK1.out; omega⟩, by repeat (first | exact Drawn0.refl _ | apply Drawn0.step)⟩
            · rw [if_neg c5] at H
              exact absurd H (by simp)
          · rw [if_neg c4] at H
            exact absurd H (by simp)
        · rw [if_neg c3] at H
          have c3b0 : decide (x10_1 < (a0.size : Int)) = false := decide_eq_false c3
          clear c3
          obtain rfl := Option.some.inj H
          go_wp2
          go_ret
          exact ⟨by first | rfl | (simp; done) | (simp [*]; done), by repeat (first | exact Drawn0.refl _ | apply Drawn0.step)⟩

/-! ### impl_EventOk: function 13 -/
def impl_EventOk.pre (k : Nat) (kind style : Int) (text : ByteArray) (at_ code : Int) : Option Bool :=
  if kind = 1 ∨ kind = 7 ∨ kind = 9 ∨ kind = 2 ∨ kind = 8 then some true
  else if kind = 3 ∨ kind = 4 then impl_within.f style 6 7
  else if kind = 5 then impl_within.f style 1 5
  else if kind = 6 then (if text.toList.isEmpty = true then some false else impl_isName.f k text)
  else if kind = 10 then ((impl_within.f code 1 99).bind fun b => (if b = true then some (!decide (at_ < 0)) else some false))
  else some false
def impl_EventOk.os (kind style : Int) : Int := if kind = 3 ∨ kind = 4 ∨ kind = 5 then style else 0
def impl_EventOk.ofl (kind : Int) (flag : Bool) : Bool := if kind = 2 ∨ kind = 8 then flag else false
def impl_EventOk.ot (kind : Int) (text : ByteArray) : ByteArray := if kind = 5 ∨ kind = 6 then text else ⟨#[]⟩
def impl_EventOk.oa (kind : Int) (anchor : ByteArray) : ByteArray := if kind = 3 ∨ kind = 4 ∨ kind = 5 then anchor else ⟨#[]⟩
def impl_EventOk.oc (kind code : Int) : Int := if kind = 10 then code else 0
def impl_EventOk.eqB (kind style : Int) (flag : Bool) (text anchor tag : ByteArray) (at_ code os : Int) (ofl : Bool) (ot oa og : ByteArray) (oat oc : Int) : Bool := kind == kind && (style == os && (flag == ofl && (text.toList == ot.toList && (anchor.toList == oa.toList && (tag.toList == og.toList && (at_ == oat && (code == oc)))))))
def impl_EventOk.eqE (kind style : Int) (flag : Bool) (text anchor tag : ByteArray) (at_ code : Int) : Bool :=
  impl_EventOk.eqB kind style flag text anchor tag at_ code (impl_EventOk.os kind style) (impl_EventOk.ofl kind flag) (impl_EventOk.ot kind text) (impl_EventOk.oa kind anchor) (impl_EventOk.oa kind tag) (impl_EventOk.oc kind at_) (impl_EventOk.oc kind code)
def impl_EventOk.f (k : Nat) (kind style : Int) (flag : Bool) (text anchor tag : ByteArray) (at_ code : Int) : Option Bool :=
  (impl_EventOk.pre k kind style text at_ code).bind fun ok => (if ok = true then (if impl_EventOk.eqE kind style flag text anchor tag at_ code = true then ((impl_isName.f k anchor).bind fun n => (if n = true then some (decide ((tag.size : Int) ≤ 120)) else some false)) else some false) else some false)
theorem impl_EventOk.mono : ∀ a0 a1 a2 a3 a4 a5 a6 a7 k, LeO (impl_EventOk.f k a0 a1 a2 a3 a4 a5 a6 a7) (impl_EventOk.f (k + 1) a0 a1 a2 a3 a4 a5 a6 a7) := by
  intro a0 a1 a2 a3 a4 a5 a6 a7 k
  unfold impl_EventOk.f impl_EventOk.pre
  repeat' first
    | (with_reducible exact impl_isName.mono _ _)
    | (with_reducible exact LeO.refl _)
    | (with_reducible exact LeO.none _)
    | (with_reducible refine LeO.ite ?_ ?_)
    | (with_reducible refine LeO.bind ?_ (fun _ => ?_))
/-- The switch's own answer in memory: e at block ge, own at block go. -/
def EvAt (w W : World) (ge go : Nat) (kind style : Int) (flag : Bool) (text anchor tag : ByteArray) (at_ code : Int) (os : Int) (ofl : Bool) (ot oa og : ByteArray) (oat oc : Int) : Prop :=
  ge ≠ go ∧ w.heap.size ≤ ge ∧ w.heap.size ≤ go ∧ Below w.heap.size w W ∧ W.heap[ge]? = some (.cells #[.int .i64 kind, .int .i64 style, .bool flag, .string text, .string anchor, .string tag, .int .i64 at_, .int .i64 code] 29 (0, 0)) ∧ W.heap[go]? = some (.cells #[.int .i64 kind, .int .i64 os, .bool ofl, .string ot, .string oa, .string og, .int .i64 oat, .int .i64 oc] 29 (0, 0))
theorem EvAt.below {w W W1 : World} {ge go : Nat} {kind style : Int} {flag : Bool} {text anchor tag : ByteArray} {at_ code os : Int} {ofl : Bool} {ot oa og : ByteArray} {oat oc : Int} (h : EvAt w W ge go kind style flag text anchor tag at_ code os ofl ot oa og oat oc) (hb : Below W.heap.size W W1) : EvAt w W1 ge go kind style flag text anchor tag at_ code os ofl ot oa og oat oc := by
  obtain ⟨h1, h2, h3, h4, h5, h6⟩ := h
  exact ⟨h1, h2, h3, below_then h4 h4.size hb, (hb.block ge (blk_lt h5)).trans h5, (hb.block go (blk_lt h6)).trans h6⟩
theorem EvAt.set {w W : World} {ge go : Nat} {kind style : Int} {flag : Bool} {text anchor tag : ByteArray} {at_ code os : Int} {ofl : Bool} {ot oa og : ByteArray} {oat oc : Int} (h : EvAt w W ge go kind style flag text anchor tag at_ code os ofl ot oa og oat oc) (j : Nat) (u : Value) {os' : Int} {ofl' : Bool} {ot' oa' og' : ByteArray} {oat' oc' : Int}
    (hu : (#[.int .i64 kind, .int .i64 os, .bool ofl, .string ot, .string oa, .string og, .int .i64 oat, .int .i64 oc] : Array Value).setIfInBounds j u = #[.int .i64 kind, .int .i64 os', .bool ofl', .string ot', .string oa', .string og', .int .i64 oat', .int .i64 oc']) : EvAt w (W.setCell ⟨go, j, none⟩ u) ge go kind style flag text anchor tag at_ code os' ofl' ot' oa' og' oat' oc' := by
  obtain ⟨h1, h2, h3, h4, h5, h6⟩ := h
  have hs := blk_set h6 j u
  rw [hu] at hs
  exact ⟨h1, h2, h3, h4.setCell h3 _, blk_far h5 h1 u, hs⟩
theorem EvAt.cells {w W : World} {ge go : Nat} {kind style : Int} {flag : Bool} {text anchor tag : ByteArray} {at_ code os : Int} {ofl : Bool} {ot oa og : ByteArray} {oat oc : Int} (h : EvAt w W ge go kind style flag text anchor tag at_ code os ofl ot oa og oat oc) :
    (ge ≠ go ∧ go ≠ ge) ∧ (W.cell? ⟨ge, 0, none⟩ = some (.int .i64 kind) ∧ W.cell? ⟨ge, 1, none⟩ = some (.int .i64 style) ∧ W.cell? ⟨ge, 2, none⟩ = some (.bool flag) ∧ W.cell? ⟨ge, 3, none⟩ = some (.string text) ∧ W.cell? ⟨ge, 4, none⟩ = some (.string anchor) ∧ W.cell? ⟨ge, 5, none⟩ = some (.string tag) ∧ W.cell? ⟨ge, 6, none⟩ = some (.int .i64 at_) ∧ W.cell? ⟨ge, 7, none⟩ = some (.int .i64 code)) ∧
    (W.cell? ⟨go, 0, none⟩ = some (.int .i64 kind) ∧ W.cell? ⟨go, 1, none⟩ = some (.int .i64 os) ∧ W.cell? ⟨go, 2, none⟩ = some (.bool ofl) ∧ W.cell? ⟨go, 3, none⟩ = some (.string ot) ∧ W.cell? ⟨go, 4, none⟩ = some (.string oa) ∧ W.cell? ⟨go, 5, none⟩ = some (.string og) ∧ W.cell? ⟨go, 6, none⟩ = some (.int .i64 oat) ∧ W.cell? ⟨go, 7, none⟩ = some (.int .i64 oc)) ∧ (∀ j, W.frozen? ⟨go, j, none⟩ = false) := by
  obtain ⟨h1, h2, h3, h4, h5, h6⟩ := h
  exact ⟨⟨h1, h1.symm⟩, ⟨(blk_cell h5 0).trans rfl, (blk_cell h5 1).trans rfl, (blk_cell h5 2).trans rfl, (blk_cell h5 3).trans rfl, (blk_cell h5 4).trans rfl, (blk_cell h5 5).trans rfl, (blk_cell h5 6).trans rfl, (blk_cell h5 7).trans rfl⟩, ⟨(blk_cell h6 0).trans rfl, (blk_cell h6 1).trans rfl, (blk_cell h6 2).trans rfl, (blk_cell h6 3).trans rfl, (blk_cell h6 4).trans rfl, (blk_cell h6 5).trans rfl, (blk_cell h6 6).trans rfl, (blk_cell h6 7).trans rfl⟩, blk_frozen h6⟩
theorem EvAt.bel {w W : World} {ge go : Nat} {kind style : Int} {flag : Bool} {text anchor tag : ByteArray} {at_ code os : Int} {ofl : Bool} {ot oa og : ByteArray} {oat oc : Int} (h : EvAt w W ge go kind style flag text anchor tag at_ code os ofl ot oa og oat oc) : Below w.heap.size w W := h.2.2.2.1
/-- Below the world's own size: behind a name. -/
def BelowOwn (w w' : World) : Prop := Below w.heap.size w w'
theorem ev_eqA (d : Nat) (w : World) (x0 y0 : Int) (x1 y1 : Int) (x2 y2 : Bool) (x3 y3 : ByteArray) (x4 y4 : ByteArray) (x5 y5 : ByteArray) (x6 y6 : Int) (x7 y7 : Int) :
    (Op.equalIn (d + 2) 29 (.agg #[.int .i64 x0, .int .i64 x1, .bool x2, .string x3, .string x4, .string x5, .int .i64 x6, .int .i64 x7]) (.agg #[.int .i64 y0, .int .i64 y1, .bool y2, .string y3, .string y4, .string y5, .int .i64 y6, .int .i64 y7])).run Try.prog w = .ok (x0 == y0 && (x1 == y1 && (x2 == y2 && (x3.toList == y3.toList && (x4.toList == y4.toList && (x5.toList == y5.toList && (x6 == y6 && (x7 == y7)))))))) w := by
  refine eqA_of Try.underlying29 (by kernel_rfl) ?_
  refine eqf_cons (by rfl) (by go_simp; rfl) (by go_simp; rfl) (by go_simp) ?_
  refine eqf_cons (by rfl) (by go_simp; rfl) (by go_simp; rfl) (by go_simp) ?_
  refine eqf_cons (by rfl) (by go_simp; rfl) (by go_simp; rfl) (by go_simp) ?_
  refine eqf_cons (by rfl) (by go_simp; rfl) (by go_simp; rfl) (by go_simp) ?_
  refine eqf_cons (by rfl) (by go_simp; rfl) (by go_simp; rfl) (by go_simp) ?_
  refine eqf_cons (by rfl) (by go_simp; rfl) (by go_simp; rfl) (by go_simp) ?_
  refine eqf_cons (by rfl) (by go_simp; rfl) (by go_simp; rfl) (by go_simp) ?_
  exact eqf_last (by rfl) (by go_simp; rfl) (by go_simp; rfl) (by go_simp)
theorem ev_eq (w : World) (kind style : Int) (flag : Bool) (text anchor tag : ByteArray) (at_ code os : Int) (ofl : Bool) (ot oa og : ByteArray) (oat oc : Int) :
    (Op.equalIn 10000 29 (.agg #[.int .i64 kind, .int .i64 style, .bool flag, .string text, .string anchor, .string tag, .int .i64 at_, .int .i64 code]) (.agg #[.int .i64 kind, .int .i64 os, .bool ofl, .string ot, .string oa, .string og, .int .i64 oat, .int .i64 oc])).run Try.prog w = .ok (impl_EventOk.eqB kind style flag text anchor tag at_ code os ofl ot oa og oat oc) w := ev_eqA 9998 w _ _ _ _ _ _ _ _ _ _ _ _ _ _ _ _
set_option maxHeartbeats 8000000 in
set_option maxRecDepth 100000 in
theorem impl_EventOk.walk (k : Nat) (kind style : Int) (flag : Bool) (text anchor tag : ByteArray) (at_ code : Int) (r : Bool) (w : World) (h : impl_EventOk.f k kind style flag text anchor tag at_ code = some r) :
    Calls Try.prog 13 #[.agg #[.int .i64 kind, .int .i64 style, .bool flag, .string text, .string anchor, .string tag, .int .i64 at_, .int .i64 code]] w fun e w' => e = .returned (.bool r) ∧ BelowOwn w w' := by
  have H := h
  clear h
  unfold impl_EventOk.f at H
  obtain ⟨ok, hp, H⟩ := Option.bind_eq_some_iff.mp H
  have HP := Aside0.mk hp
  have HF := Aside0.mk (show ok = false → r = false from fun h => by rw [h, if_neg (by decide)] at H; exact (Option.some.inj H).symm)
  have HH := Aside0.mk H
  clear hp H
  have hu := Try.underlying29
  have HE := Aside0.mk (show EvAt w ((w.alloc (.cells #[.int .i64 kind, .int .i64 style, .bool flag, .string text, .string anchor, .string tag, .int .i64 at_, .int .i64 code] 29)).alloc (.cells #[.int .i64 kind, .int .i64 0, .bool false, .string ⟨#[]⟩, .string ⟨#[]⟩, .string ⟨#[]⟩, .int .i64 0, .int .i64 0] 29)) w.heap.size (w.heap.size + 1) kind style flag text anchor tag at_ code 0 false ⟨#[]⟩ ⟨#[]⟩ ⟨#[]⟩ 0 0 from
    ⟨by omega, Nat.le_refl _, by omega, below_alloc (below_alloc (Below.refl _ _) _) _, (by
      have h1 := heap_alloc_new w (.cells #[.int .i64 kind, .int .i64 style, .bool flag, .string text, .string anchor, .string tag, .int .i64 at_, .int .i64 code] 29)
      exact ((below_alloc (Below.refl _ _) _ : Below (w.alloc (.cells #[.int .i64 kind, .int .i64 style, .bool flag, .string text, .string anchor, .string tag, .int .i64 at_, .int .i64 code] 29)).heap.size _ _).block w.heap.size (blk_lt h1)).trans h1), (by
      have h2 := heap_alloc_new (w.alloc (.cells #[.int .i64 kind, .int .i64 style, .bool flag, .string text, .string anchor, .string tag, .int .i64 at_, .int .i64 code] 29)) (.cells #[.int .i64 kind, .int .i64 0, .bool false, .string ⟨#[]⟩, .string ⟨#[]⟩, .string ⟨#[]⟩, .int .i64 0, .int .i64 0] 29)
      rw [World.size_alloc] at h2
      exact h2)⟩)
  go_enter Try.func13, Try.ntmps13
  go_upto_block 0 with fail
  generalize ((w.alloc (.cells #[.int .i64 kind, .int .i64 style, .bool flag, .string text, .string anchor, .string tag, .int .i64 at_, .int .i64 code] 29)).alloc (.cells #[.int .i64 kind, .int .i64 0, .bool false, .string ⟨#[]⟩, .string ⟨#[]⟩, .string ⟨#[]⟩, .int .i64 0, .int .i64 0] 29)) = W0 at HE ⊢
  generalize w.heap.size + 1 = go at HE ⊢
  generalize w.heap.size = ge at HE ⊢
  go_cut [] (fun wc => Aside0 (EvAt w wc ge go kind style flag text anchor tag at_ code (impl_EventOk.os kind style) (impl_EventOk.ofl kind flag) (impl_EventOk.ot kind text) (impl_EventOk.oa kind anchor) (impl_EventOk.oa kind tag) (impl_EventOk.oc kind at_) (impl_EventOk.oc kind code)) ∧ Aside0 (ok = true))
  case first =>
    obtain ⟨⟨hn1, hn2⟩, ⟨e0, e1, e2, e3, e4, e5, e6, e7⟩, ⟨o0, o1, o2, o3, o4, o5, o6, o7⟩, of⟩ := HE.out.cells
    by_cases c : kind = 1 ∨ kind = 7 ∨ kind = 9
    · have hok := HP.out
      rw [impl_EventOk.pre, if_pos (by omega)] at hok
      obtain rfl := (Option.some.inj hok).symm
      clear hok HH HF o0 o1 o2 o3 o4 o5 o6 o7 of
      rcases c with rfl | rfl | rfl
      · go_wp2
        go_meet
        case rel => exact ⟨HE, ⟨by first | rfl | trivial⟩⟩
      · go_wp2
        go_meet
        case rel => exact ⟨HE, ⟨by first | rfl | trivial⟩⟩
      · go_wp2
        go_meet
        case rel => exact ⟨HE, ⟨by first | rfl | trivial⟩⟩
    · by_cases c2 : kind = 2 ∨ kind = 8
      · have hok := HP.out
        rw [impl_EventOk.pre, if_pos (by omega)] at hok
        obtain rfl := (Option.some.inj hok).symm
        have f2 := of 2
        clear hok HH HF o0 o1 o3 o4 o5 o6 o7 of
        rcases c2 with rfl | rfl
        · go_wp2
          go_meet
          case rel => exact ⟨⟨HE.out.set 2 (.bool flag) (os' := 0) (ofl' := flag) (ot' := ⟨#[]⟩) (oa' := ⟨#[]⟩) (og' := ⟨#[]⟩) (oat' := 0) (oc' := 0) (by simp)⟩, ⟨by first | rfl | trivial⟩⟩
        · go_wp2
          go_meet
          case rel => exact ⟨⟨HE.out.set 2 (.bool flag) (os' := 0) (ofl' := flag) (ot' := ⟨#[]⟩) (oa' := ⟨#[]⟩) (og' := ⟨#[]⟩) (oat' := 0) (oc' := 0) (by simp)⟩, ⟨by first | rfl | trivial⟩⟩
      · by_cases c3 : kind = 3 ∨ kind = 4
        · have hok := HP.out
          rw [impl_EventOk.pre, if_neg (by omega), if_pos c3] at hok
          have HP := Aside0.mk hok
          clear hok HH
          rcases c3 with rfl | rfl
          · have f1 := of 1
            have f4 := of 4
            have f5 := of 5
            go_upto_region 12 with fail
            go_cut [] (fun wd => Aside0 (EvAt w wd ge go 3 style flag text anchor tag at_ code style false ⟨#[]⟩ anchor tag 0 0))
            case first =>
              skip
              go_region
              all_goals (go_wp2; go_meet; case rel => exact ⟨(((HE.out.set 1 (.int .i64 style) (os' := style) (ofl' := false) (ot' := ⟨#[]⟩) (oa' := ⟨#[]⟩) (og' := ⟨#[]⟩) (oat' := 0) (oc' := 0) (by simp)).set 4 (.string anchor) (os' := style) (ofl' := false) (ot' := ⟨#[]⟩) (oa' := anchor) (og' := ⟨#[]⟩) (oat' := 0) (oc' := 0) (by simp)).set 5 (.string tag) (os' := style) (ofl' := false) (ot' := ⟨#[]⟩) (oa' := anchor) (og' := tag) (oat' := 0) (oc' := 0) (by simp)).below (below_drew (Below.refl _ _))⟩)
            case rest =>
              clear HE e0 e1 e2 e3 e4 e5 e6 e7 o0 o1 o2 o3 o4 o5 o6 o7 of
              have HE := hcut
              clear hcut
              obtain ⟨⟨hn1, hn2⟩, ⟨e0, e1, e2, e3, e4, e5, e6, e7⟩, ⟨o0, o1, o2, o3, o4, o5, o6, o7⟩, of⟩ := HE.out.cells
              clear o0 o1 o2 o3 o4 o5 o6 o7 of
              cases ok
              · have hr := HF.out rfl
                subst hr
                go_wp2_with (go_at_call 37; refine (impl_within.calls style 6 7 false _ HP.out).mono ?_; rintro e w' ⟨rfl, hb⟩; have HE' := Aside0.mk (HE.out.below hb.below); clear hb)
                go_ret
                exact ⟨rfl, HE'.out.bel⟩
              · go_wp2_with (go_at_call 37; refine (impl_within.calls style 6 7 true _ HP.out).mono ?_; rintro e w' ⟨rfl, hb⟩; have HE' := Aside0.mk (HE.out.below hb.below); clear hb)
                go_meet
                case rel => exact ⟨HE', ⟨by first | rfl | trivial⟩⟩
          · have f1 := of 1
            have f4 := of 4
            have f5 := of 5
            go_upto_region 12 with fail
            go_cut [] (fun wd => Aside0 (EvAt w wd ge go 4 style flag text anchor tag at_ code style false ⟨#[]⟩ anchor tag 0 0))
            case first =>
              skip
              go_region
              all_goals (go_wp2; go_meet; case rel => exact ⟨(((HE.out.set 1 (.int .i64 style) (os' := style) (ofl' := false) (ot' := ⟨#[]⟩) (oa' := ⟨#[]⟩) (og' := ⟨#[]⟩) (oat' := 0) (oc' := 0) (by simp)).set 4 (.string anchor) (os' := style) (ofl' := false) (ot' := ⟨#[]⟩) (oa' := anchor) (og' := ⟨#[]⟩) (oat' := 0) (oc' := 0) (by simp)).set 5 (.string tag) (os' := style) (ofl' := false) (ot' := ⟨#[]⟩) (oa' := anchor) (og' := tag) (oat' := 0) (oc' := 0) (by simp)).below (below_drew (Below.refl _ _))⟩)
            case rest =>
              clear HE e0 e1 e2 e3 e4 e5 e6 e7 o0 o1 o2 o3 o4 o5 o6 o7 of
              have HE := hcut
              clear hcut
              obtain ⟨⟨hn1, hn2⟩, ⟨e0, e1, e2, e3, e4, e5, e6, e7⟩, ⟨o0, o1, o2, o3, o4, o5, o6, o7⟩, of⟩ := HE.out.cells
              clear o0 o1 o2 o3 o4 o5 o6 o7 of
              cases ok
              · have hr := HF.out rfl
                subst hr
                go_wp2_with (go_at_call 37; refine (impl_within.calls style 6 7 false _ HP.out).mono ?_; rintro e w' ⟨rfl, hb⟩; have HE' := Aside0.mk (HE.out.below hb.below); clear hb)
                go_ret
                exact ⟨rfl, HE'.out.bel⟩
              · go_wp2_with (go_at_call 37; refine (impl_within.calls style 6 7 true _ HP.out).mono ?_; rintro e w' ⟨rfl, hb⟩; have HE' := Aside0.mk (HE.out.below hb.below); clear hb)
                go_meet
                case rel => exact ⟨HE', ⟨by first | rfl | trivial⟩⟩
        · by_cases c5 : kind = 5
          · have hok := HP.out
            rw [impl_EventOk.pre, if_neg (by omega), if_neg c3, if_pos c5] at hok
            have HP := Aside0.mk hok
            subst c5
            have f1 := of 1
            have f3 := of 3
            have f4 := of 4
            have f5 := of 5
            clear hok HH
            go_upto_region 16 with fail
            go_cut [] (fun wd => Aside0 (EvAt w wd ge go 5 style flag text anchor tag at_ code style false text anchor tag 0 0))
            case first =>
              skip
              go_region
              all_goals (go_wp2; go_meet; case rel => exact ⟨((((HE.out.set 1 (.int .i64 style) (os' := style) (ofl' := false) (ot' := ⟨#[]⟩) (oa' := ⟨#[]⟩) (og' := ⟨#[]⟩) (oat' := 0) (oc' := 0) (by simp)).set 3 (.string text) (os' := style) (ofl' := false) (ot' := text) (oa' := ⟨#[]⟩) (og' := ⟨#[]⟩) (oat' := 0) (oc' := 0) (by simp)).set 4 (.string anchor) (os' := style) (ofl' := false) (ot' := text) (oa' := anchor) (og' := ⟨#[]⟩) (oat' := 0) (oc' := 0) (by simp)).set 5 (.string tag) (os' := style) (ofl' := false) (ot' := text) (oa' := anchor) (og' := tag) (oat' := 0) (oc' := 0) (by simp)).below (below_drew (Below.refl _ _))⟩)
            case rest =>
              clear HE e0 e1 e2 e3 e4 e5 e6 e7 o0 o1 o2 o3 o4 o5 o6 o7 of
              have HE := hcut
              clear hcut
              obtain ⟨⟨hn1, hn2⟩, ⟨e0, e1, e2, e3, e4, e5, e6, e7⟩, ⟨o0, o1, o2, o3, o4, o5, o6, o7⟩, of⟩ := HE.out.cells
              clear o0 o1 o2 o3 o4 o5 o6 o7 of
              cases ok
              · have hr := HF.out rfl
                subst hr
                go_wp2_with (go_at_call 37; refine (impl_within.calls style 1 5 false _ HP.out).mono ?_; rintro e w' ⟨rfl, hb⟩; have HE' := Aside0.mk (HE.out.below hb.below); clear hb)
                go_ret
                exact ⟨rfl, HE'.out.bel⟩
              · go_wp2_with (go_at_call 37; refine (impl_within.calls style 1 5 true _ HP.out).mono ?_; rintro e w' ⟨rfl, hb⟩; have HE' := Aside0.mk (HE.out.below hb.below); clear hb)
                go_meet
                case rel => exact ⟨HE', ⟨by first | rfl | trivial⟩⟩
          · by_cases c6 : kind = 6
            · have hok := HP.out
              rw [impl_EventOk.pre, if_neg (by omega), if_neg c3, if_neg c5, if_pos c6] at hok
              subst c6
              have f3 := of 3
              have HS := Aside0.mk (HE.out.set 3 (.string text) (os' := 0) (ofl' := false) (ot' := text) (oa' := ⟨#[]⟩) (og' := ⟨#[]⟩) (oat' := 0) (oc' := 0) (by simp))
              clear HH of
              by_cases te : text.toList.isEmpty = true
              · rw [if_pos te] at hok
                obtain rfl := (Option.some.inj hok).symm
                have hr := HF.out rfl
                subst hr
                clear hok
                go_wp2
                go_ret
                exact ⟨rfl, HS.out.bel⟩
              · rw [if_neg te] at hok
                have te1 : text.toList.isEmpty = false := by simpa using te
                have HP := Aside0.mk hok
                clear hok te
                cases ok
                · have hr := HF.out rfl
                  subst hr
                  go_wp2_with (go_at_call 38; refine (impl_isName.calls k text false _ HP.out).mono ?_; rintro e w' ⟨rfl, hb⟩; have HE' := Aside0.mk (HS.out.below hb.below); clear hb)
                  go_ret
                  exact ⟨rfl, HE'.out.bel⟩
                · go_wp2_with (go_at_call 38; refine (impl_isName.calls k text true _ HP.out).mono ?_; rintro e w' ⟨rfl, hb⟩; have HE' := Aside0.mk (HS.out.below hb.below); clear hb)
                  go_meet
                  case rel => exact ⟨HE', ⟨by first | rfl | trivial⟩⟩
            · by_cases c10 : kind = 10
              · have hok := HP.out
                rw [impl_EventOk.pre, if_neg (by omega), if_neg c3, if_neg c5, if_neg c6, if_pos c10] at hok
                obtain ⟨b, hb, hok⟩ := Option.bind_eq_some_iff.mp hok
                have HPW := Aside0.mk hb
                have HO := Aside0.mk hok
                subst c10
                have f6 := of 6
                have f7 := of 7
                clear hok hb HH
                go_upto_region 24 with fail
                go_cut [] (fun wd => Aside0 (EvAt w wd ge go 10 style flag text anchor tag at_ code 0 false ⟨#[]⟩ ⟨#[]⟩ ⟨#[]⟩ at_ code))
                case first =>
                  go_region
                  all_goals (go_wp2; go_meet; case rel => exact ⟨((HE.out.set 7 (.int .i64 code) (os' := 0) (ofl' := false) (ot' := ⟨#[]⟩) (oa' := ⟨#[]⟩) (og' := ⟨#[]⟩) (oat' := 0) (oc' := code) (by simp)).set 6 (.int .i64 at_) (os' := 0) (ofl' := false) (ot' := ⟨#[]⟩) (oa' := ⟨#[]⟩) (og' := ⟨#[]⟩) (oat' := at_) (oc' := code) (by simp)).below (below_drew (Below.refl _ _))⟩)
                case rest =>
                  clear HE e0 e1 e2 e3 e4 e5 e6 e7 o0 o1 o2 o3 o4 o5 o6 o7 of f6 f7
                  have HE := hcut
                  clear hcut
                  obtain ⟨⟨hn1, hn2⟩, ⟨e0, e1, e2, e3, e4, e5, e6, e7⟩, ⟨o0, o1, o2, o3, o4, o5, o6, o7⟩, of⟩ := HE.out.cells
                  clear o0 o1 o2 o3 o4 o5 o6 o7 of
                  cases b
                  · have hok := HO.out
                    rw [if_neg (by decide)] at hok
                    obtain rfl := (Option.some.inj hok).symm
                    have hr := HF.out rfl
                    subst hr
                    clear hok
                    go_wp2_with (go_at_call 37; refine (impl_within.calls code 1 99 false _ HPW.out).mono ?_; rintro e w' ⟨rfl, hb⟩; have HE' := Aside0.mk (HE.out.below hb.below); clear hb)
                    go_ret
                    exact ⟨rfl, HE'.out.bel⟩
                  · have hok := HO.out
                    rw [if_pos rfl] at hok
                    by_cases ha : at_ < 0
                    · have ha1 : decide (at_ < 0) = true := decide_eq_true ha
                      rw [ha1] at hok
                      obtain rfl := (Option.some.inj hok).symm
                      have hr := HF.out rfl
                      subst hr
                      clear hok ha
                      go_wp2_with (go_at_call 37; refine (impl_within.calls code 1 99 true _ HPW.out).mono ?_; rintro e w' ⟨rfl, hb⟩; have HE' := Aside0.mk (HE.out.below hb.below); clear hb; obtain ⟨_, ⟨_, _, _, _, _, _, m6, _⟩, _⟩ := HE'.out.cells)
                      go_ret
                      exact ⟨rfl, HE'.out.bel⟩
                    · have ha1 : decide (at_ < 0) = false := decide_eq_false ha
                      rw [ha1] at hok
                      obtain rfl := (Option.some.inj hok).symm
                      clear hok ha
                      go_wp2_with (go_at_call 37; refine (impl_within.calls code 1 99 true _ HPW.out).mono ?_; rintro e w' ⟨rfl, hb⟩; have HE' := Aside0.mk (HE.out.below hb.below); clear hb; obtain ⟨_, ⟨_, _, _, _, _, _, m6, _⟩, _⟩ := HE'.out.cells)
                      go_meet
                      case rel => exact ⟨HE', ⟨by first | rfl | trivial⟩⟩
              · have hok := HP.out
                rw [impl_EventOk.pre, if_neg (by omega), if_neg c3, if_neg c5, if_neg c6, if_neg c10] at hok
                obtain rfl := (Option.some.inj hok).symm
                have hr := HF.out rfl
                subst hr
                have d1 : (kind == 1) = false := by simpa using (show ¬ kind = 1 by omega)
                have d2 : (kind == 2) = false := by simpa using (show ¬ kind = 2 by omega)
                have d3 : (kind == 3) = false := by simpa using (show ¬ kind = 3 by omega)
                have d4 : (kind == 4) = false := by simpa using (show ¬ kind = 4 by omega)
                have d5 : (kind == 5) = false := by simpa using (show ¬ kind = 5 by omega)
                have d6 : (kind == 6) = false := by simpa using (show ¬ kind = 6 by omega)
                have d7 : (kind == 7) = false := by simpa using (show ¬ kind = 7 by omega)
                have d8 : (kind == 8) = false := by simpa using (show ¬ kind = 8 by omega)
                have d9 : (kind == 9) = false := by simpa using (show ¬ kind = 9 by omega)
                have d10 : (kind == 10) = false := by simpa using (show ¬ kind = 10 by omega)
                clear hok HH c c2 c3 c5 c6 c10
                go_wp2
                go_ret
                exact ⟨rfl, HE.out.bel⟩
  case rest =>
    clear HE HP HF
    obtain ⟨HE, hok⟩ := hcut
    have hok := hok.out
    subst hok
    have H := HH.out
    clear HH
    rw [if_pos rfl] at H
    unfold impl_EventOk.eqE at H
    generalize impl_EventOk.os kind style = os at HE H
    generalize impl_EventOk.ofl kind flag = ofl at HE H
    generalize impl_EventOk.ot kind text = ot at HE H
    generalize impl_EventOk.oa kind anchor = oa at HE H
    generalize impl_EventOk.oa kind tag = og at HE H
    generalize impl_EventOk.oc kind at_ = oat at HE H
    generalize impl_EventOk.oc kind code = oc at HE H
    have heq := fun wx : World => ev_eq wx kind style flag text anchor tag at_ code os ofl ot oa og oat oc
    generalize impl_EventOk.eqB kind style flag text anchor tag at_ code os ofl ot oa og oat oc = B at H heq
    obtain ⟨⟨hn1, hn2⟩, ⟨e0, e1, e2, e3, e4, e5, e6, e7⟩, ⟨o0, o1, o2, o3, o4, o5, o6, o7⟩, of⟩ := HE.out.cells
    clear hn1 hn2 of
    cases B
    · rw [if_neg (by decide)] at H
      obtain rfl := Option.some.inj H
      go_wp2
      go_ret
      exact ⟨rfl, HE.out.bel⟩
    · rw [if_pos rfl] at H
      obtain ⟨n, hn, H⟩ := Option.bind_eq_some_iff.mp H
      have HN := Aside0.mk hn
      clear hn
      cases n
      · rw [if_neg (by decide)] at H
        obtain rfl := Option.some.inj H
        go_wp2_with (go_at_call 38; refine (impl_isName.calls k anchor false _ HN.out).mono ?_; rintro e w' ⟨rfl, hb⟩; have HE' := Aside0.mk (HE.out.below hb.below); clear hb)
        go_ret
        exact ⟨rfl, HE'.out.bel⟩
      · rw [if_pos rfl] at H
        obtain rfl := Option.some.inj H
        go_wp2_with (go_at_call 38; refine (impl_isName.calls k anchor true _ HN.out).mono ?_; rintro e w' ⟨rfl, hb⟩; have HE' := Aside0.mk (HE.out.below hb.below); clear hb; obtain ⟨_, ⟨_, _, _, _, _, m5, _, _⟩, _⟩ := HE'.out.cells)
        go_ret
        exact ⟨by first | rfl | simp, HE'.out.bel⟩
theorem impl_EventOk.calls (k : Nat) (kind style : Int) (flag : Bool) (text anchor tag : ByteArray) (at_ code : Int) (r : Bool) (w : World) (h : impl_EventOk.f k kind style flag text anchor tag at_ code = some r) :
    Calls Try.prog 13 #[.agg #[.int .i64 kind, .int .i64 style, .bool flag, .string text, .string anchor, .string tag, .int .i64 at_, .int .i64 code]] w fun e w' => e = .returned (.bool r) ∧ Below w.heap.size w w' :=
  impl_EventOk.walk k kind style flag text anchor tag at_ code r w h

/-! ### impl_marked: function 42 -/
def impl_marked.f (a0_0 : Int) (a0_1 : Int) (a0_2 : Bool) (a0_3 : ByteArray) (a0_4 : ByteArray) (a0_5 : ByteArray) (a0_6 : Int) (a0_7 : Int) : Option (ByteArray) := if a0_4.toList = ([] : List UInt8) then (if a0_5.toList = ([] : List UInt8) then (some (⟨#[]⟩ : ByteArray)) else (if 0 + 2 ≤ 9223372036854775807 then (if 2 + a0_5.size ≤ 9223372036854775807 then (if (((⟨#[]⟩ : ByteArray) ++ (⟨#[32, 60]⟩ : ByteArray)) ++ a0_5).size + 1 ≤ 9223372036854775807 then (some ((((⟨#[]⟩ : ByteArray) ++ (⟨#[32, 60]⟩ : ByteArray)) ++ a0_5) ++ (⟨#[62]⟩ : ByteArray))) else (none)) else (none)) else (none))) else (if 2 + a0_4.size ≤ 9223372036854775807 then (if a0_5.toList = ([] : List UInt8) then (some ((⟨#[32, 38]⟩ : ByteArray) ++ a0_4)) else (if ((⟨#[32, 38]⟩ : ByteArray) ++ a0_4).size + 2 ≤ 9223372036854775807 then (if (((⟨#[32, 38]⟩ : ByteArray) ++ a0_4) ++ (⟨#[32, 60]⟩ : ByteArray)).size + a0_5.size ≤ 9223372036854775807 then (if ((((⟨#[32, 38]⟩ : ByteArray) ++ a0_4) ++ (⟨#[32, 60]⟩ : ByteArray)) ++ a0_5).size + 1 ≤ 9223372036854775807 then (some (((((⟨#[32, 38]⟩ : ByteArray) ++ a0_4) ++ (⟨#[32, 60]⟩ : ByteArray)) ++ a0_5) ++ (⟨#[62]⟩ : ByteArray))) else (none)) else (none)) else (none))) else (none))
set_option maxHeartbeats 8000000 in
set_option maxRecDepth 100000 in
theorem impl_marked.calls (a0_0 : Int) (a0_1 : Int) (a0_2 : Bool) (a0_3 : ByteArray) (a0_4 : ByteArray) (a0_5 : ByteArray) (a0_6 : Int) (a0_7 : Int) (r : ByteArray) (w : World) (h : impl_marked.f a0_0 a0_1 a0_2 a0_3 a0_4 a0_5 a0_6 a0_7 = some r) :
    Calls Try.prog 42 #[.agg #[.int .i64 a0_0, .int .i64 a0_1, .bool a0_2, .string a0_3, .string a0_4, .string a0_5, .int .i64 a0_6, .int .i64 a0_7]] w fun e w' => e = .returned (.string r) ∧ Below w.heap.size w w' := by
  have hu29 := Try.underlying29
  have HB := Aside0.mk (Below.refl w.heap.size w)
  have H : (if a0_4.toList = ([] : List UInt8) then (if a0_5.toList = ([] : List UInt8) then (some (⟨#[]⟩ : ByteArray)) else (if 0 + 2 ≤ 9223372036854775807 then (if 2 + a0_5.size ≤ 9223372036854775807 then (if (((⟨#[]⟩ : ByteArray) ++ (⟨#[32, 60]⟩ : ByteArray)) ++ a0_5).size + 1 ≤ 9223372036854775807 then (some ((((⟨#[]⟩ : ByteArray) ++ (⟨#[32, 60]⟩ : ByteArray)) ++ a0_5) ++ (⟨#[62]⟩ : ByteArray))) else (none)) else (none)) else (none))) else (if 2 + a0_4.size ≤ 9223372036854775807 then (if a0_5.toList = ([] : List UInt8) then (some ((⟨#[32, 38]⟩ : ByteArray) ++ a0_4)) else (if ((⟨#[32, 38]⟩ : ByteArray) ++ a0_4).size + 2 ≤ 9223372036854775807 then (if (((⟨#[32, 38]⟩ : ByteArray) ++ a0_4) ++ (⟨#[32, 60]⟩ : ByteArray)).size + a0_5.size ≤ 9223372036854775807 then (if ((((⟨#[32, 38]⟩ : ByteArray) ++ a0_4) ++ (⟨#[32, 60]⟩ : ByteArray)) ++ a0_5).size + 1 ≤ 9223372036854775807 then (some (((((⟨#[32, 38]⟩ : ByteArray) ++ a0_4) ++ (⟨#[32, 60]⟩ : ByteArray)) ++ a0_5) ++ (⟨#[62]⟩ : ByteArray))) else (none)) else (none)) else (none))) else (none))) = some r := h
  clear h
  by_cases c2 : a0_4.toList = ([] : List UInt8)
  · rw [if_pos c2] at H
    have c2b14 : a0_4.toList.isEmpty = true := by rw [c2]; rfl
    try rw [c2b14]
    have c2b0 : (a0_4.toList == ([] : List UInt8)) = true := beq_iff_eq.mpr c2
    have c2b1 : (a0_4.toList != ([] : List UInt8)) = false := bne_eq_false_iff_eq.mpr c2
    clear c2
    by_cases c3 : a0_5.toList = ([] : List UInt8)
    · rw [if_pos c3] at H
      have c3b14 : a0_5.toList.isEmpty = true := by rw [c3]; rfl
      try rw [c3b14]
      have c3b0 : (a0_5.toList == ([] : List UInt8)) = true := beq_iff_eq.mpr c3
      have c3b1 : (a0_5.toList != ([] : List UInt8)) = false := bne_eq_false_iff_eq.mpr c3
      clear c3
      obtain rfl := Option.some.inj H
      go_enter Try.func42, Try.ntmps42
      go_wp2_with (first | ((with_reducible refine gate_dst (N := 1) rfl ?_); refine box_event ?hg (N := 1) ?hd (cs := #[.int .i64 a0_0, .int .i64 a0_1, .bool a0_2, .string a0_3, .string a0_4, .string a0_5, .int .i64 a0_6, .int .i64 a0_7]) (t := 29) ?hr ?_; (case hd => rfl); (case hg => rfl); (case hr => first | (go_simp; done) | (go_simp; rfl)); intro gb134 hg w4 hbox hb; have n0_ := Aside0.mk (below_step (by repeat (first | (with_reducible first | exact HB.out | apply below_alloc | apply pw_below_drewN | apply below_drew1) | exact HB.out)) hb); have n1_ := Aside0.mk (hbox); have n2_ := Aside0.mk ((by rw [hg]; exact (below_size (by repeat (first | (with_reducible first | exact HB.out | apply below_alloc | apply pw_below_drewN | apply below_drew1) | exact HB.out))) : w.heap.size ≤ gb134)); have n3_ := Aside0.mk ((by rw [hg]; exact (below_size (by repeat (first | (with_reducible first | exact HB.out | apply below_alloc | apply pw_below_drewN | apply below_drew1) | exact HB.out))) : w.heap.size ≤ gb134)); clear HB; have HB := n0_; have BK134 := n1_; have GW134 := n2_; have GE134 := n3_; clear n0_ n1_ n2_ n3_; clear hb hbox hg; have hcz5_0 : w4.cell? ⟨gb134, 0, none⟩ = some (.int .i64 a0_0) := (blk_cell BK134.out 0).trans rfl; have hcz5_1 : w4.cell? ⟨gb134, 1, none⟩ = some (.int .i64 a0_1) := (blk_cell BK134.out 1).trans rfl; have hcz5_2 : w4.cell? ⟨gb134, 2, none⟩ = some (.bool a0_2) := (blk_cell BK134.out 2).trans rfl; have hcz5_3 : w4.cell? ⟨gb134, 3, none⟩ = some (.string a0_3) := (blk_cell BK134.out 3).trans rfl; have hcz5_4 : w4.cell? ⟨gb134, 4, none⟩ = some (.string a0_4) := (blk_cell BK134.out 4).trans rfl; have hcz5_5 : w4.cell? ⟨gb134, 5, none⟩ = some (.string a0_5) := (blk_cell BK134.out 5).trans rfl; have hcz5_6 : w4.cell? ⟨gb134, 6, none⟩ = some (.int .i64 a0_6) := (blk_cell BK134.out 6).trans rfl; have hcz5_7 : w4.cell? ⟨gb134, 7, none⟩ = some (.int .i64 a0_7) := (blk_cell BK134.out 7).trans rfl; have hfz5_0 := blk_frozen BK134.out 0; have hfz5_1 := blk_frozen BK134.out 1; have hfz5_2 := blk_frozen BK134.out 2; have hfz5_3 := blk_frozen BK134.out 3; have hfz5_4 := blk_frozen BK134.out 4; have hfz5_5 := blk_frozen BK134.out 5; have hfz5_6 := blk_frozen BK134.out 6; have hfz5_7 := blk_frozen BK134.out 7))
      go_ret
      exact ⟨by first | rfl | (simp [errW_none, errW_some] <;> rfl) | (simp [*, errW_none, errW_some] <;> rfl), by repeat (first | (with_reducible first | exact HB.out | apply below_alloc | apply pw_below_drewN | apply below_drew1 | refine below_set ?_ GE134.out) | exact HB.out)⟩
    · rw [if_neg c3] at H
      have c3b14 : a0_5.toList.isEmpty = false := by simpa using c3
      try rw [c3b14]
      have c3b0 : (a0_5.toList == ([] : List UInt8)) = false := beq_eq_false_iff_ne.mpr c3
      have c3b1 : (a0_5.toList != ([] : List UInt8)) = true := bne_iff_ne.mpr c3
      by_cases c6 : 0 + 2 ≤ 9223372036854775807
      · rw [if_pos c6] at H
        have c6b0 := eq_true c6
        have c6b1 : decide (0 + 2 ≤ 9223372036854775807) = true := decide_eq_true c6
        try have c6b2 : (9223372036854775807 < 0 + 2) = False := eq_false (Nat.not_lt.2 c6)
        try (have c6b4 := c6b2; simp only [ByteArray.size_extract, Nat.min_self] at c6b4)
        by_cases c7 : 2 + a0_5.size ≤ 9223372036854775807
        · rw [if_pos c7] at H
          have c7b0 := eq_true c7
          have c7b1 : decide (2 + a0_5.size ≤ 9223372036854775807) = true := decide_eq_true c7
          try have c7b2 : (9223372036854775807 < 2 + a0_5.size) = False := eq_false (Nat.not_lt.2 c7)
          try (have c7b4 := c7b2; simp only [ByteArray.size_extract, Nat.min_self] at c7b4)
          by_cases c8 : (((⟨#[]⟩ : ByteArray) ++ (⟨#[32, 60]⟩ : ByteArray)) ++ a0_5).size + 1 ≤ 9223372036854775807
          · rw [if_pos c8] at H
            have c8b0 := eq_true c8
            have c8b1 : decide ((((⟨#[]⟩ : ByteArray) ++ (⟨#[32, 60]⟩ : ByteArray)) ++ a0_5).size + 1 ≤ 9223372036854775807) = true := decide_eq_true c8
            try have c8b2 : (9223372036854775807 < (((⟨#[]⟩ : ByteArray) ++ (⟨#[32, 60]⟩ : ByteArray)) ++ a0_5).size + 1) = False := eq_false (Nat.not_lt.2 c8)
            try have c8b5 : (9223372036854775807 < 0 + 2 + a0_5.size + 1) = False := by (have q := c8b2; simp only [ByteArray.size_append] at q; exact q)
            try (have c8b4 := c8b2; simp only [ByteArray.size_extract, Nat.min_self] at c8b4)
            obtain rfl := Option.some.inj H
            go_enter Try.func42, Try.ntmps42
            go_wp2_with (first | ((with_reducible refine gate_dst (N := 1) rfl ?_); refine box_event ?hg (N := 1) ?hd (cs := #[.int .i64 a0_0, .int .i64 a0_1, .bool a0_2, .string a0_3, .string a0_4, .string a0_5, .int .i64 a0_6, .int .i64 a0_7]) (t := 29) ?hr ?_; (case hd => rfl); (case hg => rfl); (case hr => first | (go_simp; done) | (go_simp; rfl)); intro gb134 hg w9 hbox hb; have n0_ := Aside0.mk (below_step (by repeat (first | (with_reducible first | exact HB.out | apply below_alloc | apply pw_below_drewN | apply below_drew1) | exact HB.out)) hb); have n1_ := Aside0.mk (hbox); have n2_ := Aside0.mk ((by rw [hg]; exact (below_size (by repeat (first | (with_reducible first | exact HB.out | apply below_alloc | apply pw_below_drewN | apply below_drew1) | exact HB.out))) : w.heap.size ≤ gb134)); have n3_ := Aside0.mk ((by rw [hg]; exact (below_size (by repeat (first | (with_reducible first | exact HB.out | apply below_alloc | apply pw_below_drewN | apply below_drew1) | exact HB.out))) : w.heap.size ≤ gb134)); clear HB; have HB := n0_; have BK134 := n1_; have GW134 := n2_; have GE134 := n3_; clear n0_ n1_ n2_ n3_; clear hb hbox hg; have hcz10_0 : w9.cell? ⟨gb134, 0, none⟩ = some (.int .i64 a0_0) := (blk_cell BK134.out 0).trans rfl; have hcz10_1 : w9.cell? ⟨gb134, 1, none⟩ = some (.int .i64 a0_1) := (blk_cell BK134.out 1).trans rfl; have hcz10_2 : w9.cell? ⟨gb134, 2, none⟩ = some (.bool a0_2) := (blk_cell BK134.out 2).trans rfl; have hcz10_3 : w9.cell? ⟨gb134, 3, none⟩ = some (.string a0_3) := (blk_cell BK134.out 3).trans rfl; have hcz10_4 : w9.cell? ⟨gb134, 4, none⟩ = some (.string a0_4) := (blk_cell BK134.out 4).trans rfl; have hcz10_5 : w9.cell? ⟨gb134, 5, none⟩ = some (.string a0_5) := (blk_cell BK134.out 5).trans rfl; have hcz10_6 : w9.cell? ⟨gb134, 6, none⟩ = some (.int .i64 a0_6) := (blk_cell BK134.out 6).trans rfl; have hcz10_7 : w9.cell? ⟨gb134, 7, none⟩ = some (.int .i64 a0_7) := (blk_cell BK134.out 7).trans rfl; have hfz10_0 := blk_frozen BK134.out 0; have hfz10_1 := blk_frozen BK134.out 1; have hfz10_2 := blk_frozen BK134.out 2; have hfz10_3 := blk_frozen BK134.out 3; have hfz10_4 := blk_frozen BK134.out 4; have hfz10_5 := blk_frozen BK134.out 5; have hfz10_6 := blk_frozen BK134.out 6; have hfz10_7 := blk_frozen BK134.out 7))
            go_ret
            exact ⟨by first | rfl | (simp [errW_none, errW_some] <;> rfl) | (simp [*, errW_none, errW_some] <;> rfl), by repeat (first | (with_reducible first | exact HB.out | apply below_alloc | apply pw_below_drewN | apply below_drew1 | refine below_set ?_ GE134.out) | exact HB.out)⟩
          · rw [if_neg c8] at H
            exact absurd H (by simp)
        · rw [if_neg c7] at H
          exact absurd H (by simp)
      · rw [if_neg c6] at H
        exact absurd H (by simp)
  · rw [if_neg c2] at H
    have c2b14 : a0_4.toList.isEmpty = false := by simpa using c2
    try rw [c2b14]
    have c2b0 : (a0_4.toList == ([] : List UInt8)) = false := beq_eq_false_iff_ne.mpr c2
    have c2b1 : (a0_4.toList != ([] : List UInt8)) = true := bne_iff_ne.mpr c2
    by_cases c11 : 2 + a0_4.size ≤ 9223372036854775807
    · rw [if_pos c11] at H
      have c11b0 := eq_true c11
      have c11b1 : decide (2 + a0_4.size ≤ 9223372036854775807) = true := decide_eq_true c11
      try have c11b2 : (9223372036854775807 < 2 + a0_4.size) = False := eq_false (Nat.not_lt.2 c11)
      try (have c11b4 := c11b2; simp only [ByteArray.size_extract, Nat.min_self] at c11b4)
      by_cases c12 : a0_5.toList = ([] : List UInt8)
      · rw [if_pos c12] at H
        have c12b14 : a0_5.toList.isEmpty = true := by rw [c12]; rfl
        try rw [c12b14]
        have c12b0 : (a0_5.toList == ([] : List UInt8)) = true := beq_iff_eq.mpr c12
        have c12b1 : (a0_5.toList != ([] : List UInt8)) = false := bne_eq_false_iff_eq.mpr c12
        clear c12
        obtain rfl := Option.some.inj H
        go_enter Try.func42, Try.ntmps42
        go_wp2_with (first | ((with_reducible refine gate_dst (N := 1) rfl ?_); refine box_event ?hg (N := 1) ?hd (cs := #[.int .i64 a0_0, .int .i64 a0_1, .bool a0_2, .string a0_3, .string a0_4, .string a0_5, .int .i64 a0_6, .int .i64 a0_7]) (t := 29) ?hr ?_; (case hd => rfl); (case hg => rfl); (case hr => first | (go_simp; done) | (go_simp; rfl)); intro gb134 hg w13 hbox hb; have n0_ := Aside0.mk (below_step (by repeat (first | (with_reducible first | exact HB.out | apply below_alloc | apply pw_below_drewN | apply below_drew1) | exact HB.out)) hb); have n1_ := Aside0.mk (hbox); have n2_ := Aside0.mk ((by rw [hg]; exact (below_size (by repeat (first | (with_reducible first | exact HB.out | apply below_alloc | apply pw_below_drewN | apply below_drew1) | exact HB.out))) : w.heap.size ≤ gb134)); have n3_ := Aside0.mk ((by rw [hg]; exact (below_size (by repeat (first | (with_reducible first | exact HB.out | apply below_alloc | apply pw_below_drewN | apply below_drew1) | exact HB.out))) : w.heap.size ≤ gb134)); clear HB; have HB := n0_; have BK134 := n1_; have GW134 := n2_; have GE134 := n3_; clear n0_ n1_ n2_ n3_; clear hb hbox hg; have hcz14_0 : w13.cell? ⟨gb134, 0, none⟩ = some (.int .i64 a0_0) := (blk_cell BK134.out 0).trans rfl; have hcz14_1 : w13.cell? ⟨gb134, 1, none⟩ = some (.int .i64 a0_1) := (blk_cell BK134.out 1).trans rfl; have hcz14_2 : w13.cell? ⟨gb134, 2, none⟩ = some (.bool a0_2) := (blk_cell BK134.out 2).trans rfl; have hcz14_3 : w13.cell? ⟨gb134, 3, none⟩ = some (.string a0_3) := (blk_cell BK134.out 3).trans rfl; have hcz14_4 : w13.cell? ⟨gb134, 4, none⟩ = some (.string a0_4) := (blk_cell BK134.out 4).trans rfl; have hcz14_5 : w13.cell? ⟨gb134, 5, none⟩ = some (.string a0_5) := (blk_cell BK134.out 5).trans rfl; have hcz14_6 : w13.cell? ⟨gb134, 6, none⟩ = some (.int .i64 a0_6) := (blk_cell BK134.out 6).trans rfl; have hcz14_7 : w13.cell? ⟨gb134, 7, none⟩ = some (.int .i64 a0_7) := (blk_cell BK134.out 7).trans rfl; have hfz14_0 := blk_frozen BK134.out 0; have hfz14_1 := blk_frozen BK134.out 1; have hfz14_2 := blk_frozen BK134.out 2; have hfz14_3 := blk_frozen BK134.out 3; have hfz14_4 := blk_frozen BK134.out 4; have hfz14_5 := blk_frozen BK134.out 5; have hfz14_6 := blk_frozen BK134.out 6; have hfz14_7 := blk_frozen BK134.out 7))
        go_ret
        exact ⟨by first | rfl | (simp [errW_none, errW_some] <;> rfl) | (simp [*, errW_none, errW_some] <;> rfl), by repeat (first | (with_reducible first | exact HB.out | apply below_alloc | apply pw_below_drewN | apply below_drew1 | refine below_set ?_ GE134.out) | exact HB.out)⟩
      · rw [if_neg c12] at H
        have c12b14 : a0_5.toList.isEmpty = false := by simpa using c12
        try rw [c12b14]
        have c12b0 : (a0_5.toList == ([] : List UInt8)) = false := beq_eq_false_iff_ne.mpr c12
        have c12b1 : (a0_5.toList != ([] : List UInt8)) = true := bne_iff_ne.mpr c12
        by_cases c15 : ((⟨#[32, 38]⟩ : ByteArray) ++ a0_4).size + 2 ≤ 9223372036854775807
        · rw [if_pos c15] at H
          have c15b0 := eq_true c15
          have c15b1 : decide (((⟨#[32, 38]⟩ : ByteArray) ++ a0_4).size + 2 ≤ 9223372036854775807) = true := decide_eq_true c15
          try have c15b2 : (9223372036854775807 < ((⟨#[32, 38]⟩ : ByteArray) ++ a0_4).size + 2) = False := eq_false (Nat.not_lt.2 c15)
          try have c15b5 : (9223372036854775807 < 2 + a0_4.size + 2) = False := by (have q := c15b2; simp only [ByteArray.size_append] at q; exact q)
          try (have c15b4 := c15b2; simp only [ByteArray.size_extract, Nat.min_self] at c15b4)
          by_cases c16 : (((⟨#[32, 38]⟩ : ByteArray) ++ a0_4) ++ (⟨#[32, 60]⟩ : ByteArray)).size + a0_5.size ≤ 9223372036854775807
          · rw [if_pos c16] at H
            have c16b0 := eq_true c16
            have c16b1 : decide ((((⟨#[32, 38]⟩ : ByteArray) ++ a0_4) ++ (⟨#[32, 60]⟩ : ByteArray)).size + a0_5.size ≤ 9223372036854775807) = true := decide_eq_true c16
            try have c16b2 : (9223372036854775807 < (((⟨#[32, 38]⟩ : ByteArray) ++ a0_4) ++ (⟨#[32, 60]⟩ : ByteArray)).size + a0_5.size) = False := eq_false (Nat.not_lt.2 c16)
            try have c16b5 : (9223372036854775807 < 2 + a0_4.size + 2 + a0_5.size) = False := by (have q := c16b2; simp only [ByteArray.size_append] at q; exact q)
            try (have c16b4 := c16b2; simp only [ByteArray.size_extract, Nat.min_self] at c16b4)
            by_cases c17 : ((((⟨#[32, 38]⟩ : ByteArray) ++ a0_4) ++ (⟨#[32, 60]⟩ : ByteArray)) ++ a0_5).size + 1 ≤ 9223372036854775807
            · rw [if_pos c17] at H
              have c17b0 := eq_true c17
              have c17b1 : decide (((((⟨#[32, 38]⟩ : ByteArray) ++ a0_4) ++ (⟨#[32, 60]⟩ : ByteArray)) ++ a0_5).size + 1 ≤ 9223372036854775807) = true := decide_eq_true c17
              try have c17b2 : (9223372036854775807 < ((((⟨#[32, 38]⟩ : ByteArray) ++ a0_4) ++ (⟨#[32, 60]⟩ : ByteArray)) ++ a0_5).size + 1) = False := eq_false (Nat.not_lt.2 c17)
              try have c17b5 : (9223372036854775807 < 2 + a0_4.size + 2 + a0_5.size + 1) = False := by (have q := c17b2; simp only [ByteArray.size_append] at q; exact q)
              try (have c17b4 := c17b2; simp only [ByteArray.size_extract, Nat.min_self] at c17b4)
              obtain rfl := Option.some.inj H
              go_enter Try.func42, Try.ntmps42
              go_wp2_with (first | ((with_reducible refine gate_dst (N := 1) rfl ?_); refine box_event ?hg (N := 1) ?hd (cs := #[.int .i64 a0_0, .int .i64 a0_1, .bool a0_2, .string a0_3, .string a0_4, .string a0_5, .int .i64 a0_6, .int .i64 a0_7]) (t := 29) ?hr ?_; (case hd => rfl); (case hg => rfl); (case hr => first | (go_simp; done) | (go_simp; rfl)); intro gb134 hg w18 hbox hb; have n0_ := Aside0.mk (below_step (by repeat (first | (with_reducible first | exact HB.out | apply below_alloc | apply pw_below_drewN | apply below_drew1) | exact HB.out)) hb); have n1_ := Aside0.mk (hbox); have n2_ := Aside0.mk ((by rw [hg]; exact (below_size (by repeat (first | (with_reducible first | exact HB.out | apply below_alloc | apply pw_below_drewN | apply below_drew1) | exact HB.out))) : w.heap.size ≤ gb134)); have n3_ := Aside0.mk ((by rw [hg]; exact (below_size (by repeat (first | (with_reducible first | exact HB.out | apply below_alloc | apply pw_below_drewN | apply below_drew1) | exact HB.out))) : w.heap.size ≤ gb134)); clear HB; have HB := n0_; have BK134 := n1_; have GW134 := n2_; have GE134 := n3_; clear n0_ n1_ n2_ n3_; clear hb hbox hg; have hcz19_0 : w18.cell? ⟨gb134, 0, none⟩ = some (.int .i64 a0_0) := (blk_cell BK134.out 0).trans rfl; have hcz19_1 : w18.cell? ⟨gb134, 1, none⟩ = some (.int .i64 a0_1) := (blk_cell BK134.out 1).trans rfl; have hcz19_2 : w18.cell? ⟨gb134, 2, none⟩ = some (.bool a0_2) := (blk_cell BK134.out 2).trans rfl; have hcz19_3 : w18.cell? ⟨gb134, 3, none⟩ = some (.string a0_3) := (blk_cell BK134.out 3).trans rfl; have hcz19_4 : w18.cell? ⟨gb134, 4, none⟩ = some (.string a0_4) := (blk_cell BK134.out 4).trans rfl; have hcz19_5 : w18.cell? ⟨gb134, 5, none⟩ = some (.string a0_5) := (blk_cell BK134.out 5).trans rfl; have hcz19_6 : w18.cell? ⟨gb134, 6, none⟩ = some (.int .i64 a0_6) := (blk_cell BK134.out 6).trans rfl; have hcz19_7 : w18.cell? ⟨gb134, 7, none⟩ = some (.int .i64 a0_7) := (blk_cell BK134.out 7).trans rfl; have hfz19_0 := blk_frozen BK134.out 0; have hfz19_1 := blk_frozen BK134.out 1; have hfz19_2 := blk_frozen BK134.out 2; have hfz19_3 := blk_frozen BK134.out 3; have hfz19_4 := blk_frozen BK134.out 4; have hfz19_5 := blk_frozen BK134.out 5; have hfz19_6 := blk_frozen BK134.out 6; have hfz19_7 := blk_frozen BK134.out 7))
              go_ret
              exact ⟨by first | rfl | (simp [errW_none, errW_some] <;> rfl) | (simp [*, errW_none, errW_some] <;> rfl), by repeat (first | (with_reducible first | exact HB.out | apply below_alloc | apply pw_below_drewN | apply below_drew1 | refine below_set ?_ GE134.out) | exact HB.out)⟩
            · rw [if_neg c17] at H
              exact absurd H (by simp)
          · rw [if_neg c16] at H
            exact absurd H (by simp)
        · rw [if_neg c15] at H
          exact absurd H (by simp)
    · rw [if_neg c11] at H
      exact absurd H (by simp)

end Go.Proofs.Ytacmlggiklkbiaa.PFnExactEventText
