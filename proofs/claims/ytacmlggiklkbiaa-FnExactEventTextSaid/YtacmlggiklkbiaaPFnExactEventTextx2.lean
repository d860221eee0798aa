-- Written by a program of this session, out of the translation.
import Derived.Test.YtacmlggiklkbiaaPFnExactEventTextx0
import Derived.Test.YtacmlggiklkbiaaPFnExactEventTextx1
namespace Go.Proofs.Ytacmlggiklkbiaa.PFnExactEventText
open Go.RowKit Go.Proofs.YtacmlggiklkbiaaW.PrintWords Go.Proofs.YtacmlggiklkbiaaW.PrintLast Go.Proofs.YtacmlggiklkbiaaW.PrintMore
attribute [local go_sem] max2_int min2_int max_two min_two max_three min_three max_four min_four   -- for this text's walks alone
set_option linter.unusedVariables false
set_option linter.unusedSimpArgs false

/-! ### spec_EventOk: function 11 -/
mutual
def spec_EventOk.j0 : Nat → Bool → Int → Int → Bool → ByteArray → ByteArray → ByteArray → Int → Int → Option (Bool)
  | 0, _, _, _, _, _, _, _, _, _ => none
  | k + 1, x3, x110000, x110001, x110002, x110003, x110004, x110005, x110006, x110007 => if x3 = true then (spec_EventOk.j1 k x3 6 7 x110000 x110001 x110002 x110003 x110004 x110005 x110006 x110007) else (spec_EventOk.j1 k x3 0 0 x110000 x110001 x110002 x110003 x110004 x110005 x110006 x110007)
def spec_EventOk.j1 : Nat → Bool → Int → Int → Int → Int → Bool → ByteArray → ByteArray → ByteArray → Int → Int → Option (Bool)
  | 0, _, _, _, _, _, _, _, _, _, _, _ => none
  | k + 1, x3, x4, x5, x110000, x110001, x110002, x110003, x110004, x110005, x110006, x110007 => if x110000 = 5 then (spec_EventOk.j2 k x3 1 5 x110000 x110001 x110002 x110003 x110004 x110005 x110006 x110007) else (spec_EventOk.j2 k x3 x4 x5 x110000 x110001 x110002 x110003 x110004 x110005 x110006 x110007)
def spec_EventOk.j2 : Nat → Bool → Int → Int → Int → Int → Bool → ByteArray → ByteArray → ByteArray → Int → Int → Option (Bool)
  | 0, _, _, _, _, _, _, _, _, _, _, _ => none
  | k + 1, x3, x4, x5, x110000, x110001, x110002, x110003, x110004, x110005, x110006, x110007 => if x110000 < 1 then (spec_EventOk.j3 k x3 true x110000 x110001 x110002 x110003 x110004 x110005 x110006 x110007) else (if x110000 > 10 then (spec_EventOk.j3 k x3 true x110000 x110001 x110002 x110003 x110004 x110005 x110006 x110007) else (if x110001 < x4 then (spec_EventOk.j3 k x3 true x110000 x110001 x110002 x110003 x110004 x110005 x110006 x110007) else (spec_EventOk.j3 k x3 (decide (x110001 > x5)) x110000 x110001 x110002 x110003 x110004 x110005 x110006 x110007)))
def spec_EventOk.j3 : Nat → Bool → Bool → Int → Int → Bool → ByteArray → ByteArray → ByteArray → Int → Int → Option (Bool)
  | 0, _, _, _, _, _, _, _, _, _, _ => none
  | k + 1, x3, x42, x110000, x110001, x110002, x110003, x110004, x110005, x110006, x110007 => if x42 = true then (some false) else (if x110002 = true then (if x110000 = 2 then (if x110003.toList = ([] : List UInt8) then (if x110004.toList = ([] : List UInt8) then (if x110005.toList = ([] : List UInt8) then (spec_EventOk.j4 k false x110000 x110001 x110002 x110003 x110004 x110005 x110006 x110007) else (spec_EventOk.j4 k (!x3) x110000 x110001 x110002 x110003 x110004 x110005 x110006 x110007)) else (spec_EventOk.j4 k (!x3) x110000 x110001 x110002 x110003 x110004 x110005 x110006 x110007)) else (if x110000 = 5 then (if x110004.toList = ([] : List UInt8) then (if x110005.toList = ([] : List UInt8) then (spec_EventOk.j4 k false x110000 x110001 x110002 x110003 x110004 x110005 x110006 x110007) else (spec_EventOk.j4 k (!x3) x110000 x110001 x110002 x110003 x110004 x110005 x110006 x110007)) else (spec_EventOk.j4 k (!x3) x110000 x110001 x110002 x110003 x110004 x110005 x110006 x110007)) else (if x110000 = 6 then (if x110004.toList = ([] : List UInt8) then (if x110005.toList = ([] : List UInt8) then (spec_EventOk.j4 k false x110000 x110001 x110002 x110003 x110004 x110005 x110006 x110007) else (spec_EventOk.j4 k (!x3) x110000 x110001 x110002 x110003 x110004 x110005 x110006 x110007)) else (spec_EventOk.j4 k (!x3) x110000 x110001 x110002 x110003 x110004 x110005 x110006 x110007)) else (spec_EventOk.j4 k true x110000 x110001 x110002 x110003 x110004 x110005 x110006 x110007)))) else (if x110000 = 8 then (if x110003.toList = ([] : List UInt8) then (if x110004.toList = ([] : List UInt8) then (if x110005.toList = ([] : List UInt8) then (spec_EventOk.j4 k false x110000 x110001 x110002 x110003 x110004 x110005 x110006 x110007) else (spec_EventOk.j4 k (!x3) x110000 x110001 x110002 x110003 x110004 x110005 x110006 x110007)) else (spec_EventOk.j4 k (!x3) x110000 x110001 x110002 x110003 x110004 x110005 x110006 x110007)) else (if x110000 = 5 then (if x110004.toList = ([] : List UInt8) then (if x110005.toList = ([] : List UInt8) then (spec_EventOk.j4 k false x110000 x110001 x110002 x110003 x110004 x110005 x110006 x110007) else (spec_EventOk.j4 k (!x3) x110000 x110001 x110002 x110003 x110004 x110005 x110006 x110007)) else (spec_EventOk.j4 k (!x3) x110000 x110001 x110002 x110003 x110004 x110005 x110006 x110007)) else (if x110000 = 6 then (if x110004.toList = ([] : List UInt8) then (if x110005.toList = ([] : List UInt8) then (spec_EventOk.j4 k false x110000 x110001 x110002 x110003 x110004 x110005 x110006 x110007) else (spec_EventOk.j4 k (!x3) x110000 x110001 x110002 x110003 x110004 x110005 x110006 x110007)) else (spec_EventOk.j4 k (!x3) x110000 x110001 x110002 x110003 x110004 x110005 x110006 x110007)) else (spec_EventOk.j4 k true x110000 x110001 x110002 x110003 x110004 x110005 x110006 x110007)))) else (spec_EventOk.j4 k true x110000 x110001 x110002 x110003 x110004 x110005 x110006 x110007))) else (if x110003.toList = ([] : List UInt8) then (if x110004.toList = ([] : List UInt8) then (if x110005.toList = ([] : List UInt8) then (spec_EventOk.j4 k false x110000 x110001 x110002 x110003 x110004 x110005 x110006 x110007) else (spec_EventOk.j4 k (!x3) x110000 x110001 x110002 x110003 x110004 x110005 x110006 x110007)) else (spec_EventOk.j4 k (!x3) x110000 x110001 x110002 x110003 x110004 x110005 x110006 x110007)) else (if x110000 = 5 then (if x110004.toList = ([] : List UInt8) then (if x110005.toList = ([] : List UInt8) then (spec_EventOk.j4 k false x110000 x110001 x110002 x110003 x110004 x110005 x110006 x110007) else (spec_EventOk.j4 k (!x3) x110000 x110001 x110002 x110003 x110004 x110005 x110006 x110007)) else (spec_EventOk.j4 k (!x3) x110000 x110001 x110002 x110003 x110004 x110005 x110006 x110007)) else (if x110000 = 6 then (if x110004.toList = ([] : List UInt8) then (if x110005.toList = ([] : List UInt8) then (spec_EventOk.j4 k false x110000 x110001 x110002 x110003 x110004 x110005 x110006 x110007) else (spec_EventOk.j4 k (!x3) x110000 x110001 x110002 x110003 x110004 x110005 x110006 x110007)) else (spec_EventOk.j4 k (!x3) x110000 x110001 x110002 x110003 x110004 x110005 x110006 x110007)) else (spec_EventOk.j4 k true x110000 x110001 x110002 x110003 x110004 x110005 x110006 x110007)))))
def spec_EventOk.j4 : Nat → Bool → Int → Int → Bool → ByteArray → ByteArray → ByteArray → Int → Int → Option (Bool)
  | 0, _, _, _, _, _, _, _, _, _ => none
  | k + 1, x83, x110000, x110001, x110002, x110003, x110004, x110005, x110006, x110007 => if x83 = true then (some false) else (if x110000 = 10 then (if x110007 ≥ 1 then (if x110007 ≤ 99 then (some (decide (x110006 ≥ 0))) else (some false)) else (some false)) else (if x110000 = 6 then (if x110003.toList = ([] : List UInt8) then (some false) else ((spec_l09Name.f k x110003).bind fun t110 => (if t110 = true then ((spec_l09Name.f k x110004).bind fun t111 => (if t111 = true then (if (x110005.size : Int) > 120 then (some false) else (if x110007 = 0 then (some (x110006 == 0)) else (some false))) else (some false))) else (some false)))) else ((spec_l09Name.f k x110004).bind fun t112 => (if t112 = true then (if (x110005.size : Int) > 120 then (some false) else (if x110007 = 0 then (some (x110006 == 0)) else (some false))) else (some false)))))
end
def spec_EventOk.f (k : Nat) (a0_0 : Int) (a0_1 : Int) (a0_2 : Bool) (a0_3 : ByteArray) (a0_4 : ByteArray) (a0_5 : ByteArray) (a0_6 : Int) (a0_7 : Int) : Option (Bool) := if a0_0 = 3 then (spec_EventOk.j0 k true a0_0 a0_1 a0_2 a0_3 a0_4 a0_5 a0_6 a0_7) else (if a0_0 = 4 then (spec_EventOk.j0 k true a0_0 a0_1 a0_2 a0_3 a0_4 a0_5 a0_6 a0_7) else (spec_EventOk.j0 k (a0_0 == 5) a0_0 a0_1 a0_2 a0_3 a0_4 a0_5 a0_6 a0_7))
theorem spec_EventOk.mono_l : ∀ k, (∀ y0 y1 y2 y3 y4 y5 y6 y7 y8, LeO (spec_EventOk.j0 k y0 y1 y2 y3 y4 y5 y6 y7 y8) (spec_EventOk.j0 (k + 1) y0 y1 y2 y3 y4 y5 y6 y7 y8)) ∧ (∀ y0 y1 y2 y3 y4 y5 y6 y7 y8 y9 y10, LeO (spec_EventOk.j1 k y0 y1 y2 y3 y4 y5 y6 y7 y8 y9 y10) (spec_EventOk.j1 (k + 1) y0 y1 y2 y3 y4 y5 y6 y7 y8 y9 y10)) ∧ (∀ y0 y1 y2 y3 y4 y5 y6 y7 y8 y9 y10, LeO (spec_EventOk.j2 k y0 y1 y2 y3 y4 y5 y6 y7 y8 y9 y10) (spec_EventOk.j2 (k + 1) y0 y1 y2 y3 y4 y5 y6 y7 y8 y9 y10)) ∧ (∀ y0 y1 y2 y3 y4 y5 y6 y7 y8 y9, LeO (spec_EventOk.j3 k y0 y1 y2 y3 y4 y5 y6 y7 y8 y9) (spec_EventOk.j3 (k + 1) y0 y1 y2 y3 y4 y5 y6 y7 y8 y9)) ∧ (∀ y0 y1 y2 y3 y4 y5 y6 y7 y8, LeO (spec_EventOk.j4 k y0 y1 y2 y3 y4 y5 y6 y7 y8) (spec_EventOk.j4 (k + 1) y0 y1 y2 y3 y4 y5 y6 y7 y8))
  | 0 => ⟨fun _ _ _ _ _ _ _ _ _ r h => by simp [spec_EventOk.j0] at h, fun _ _ _ _ _ _ _ _ _ _ _ r h => by simp [spec_EventOk.j1] at h, fun _ _ _ _ _ _ _ _ _ _ _ r h => by simp [spec_EventOk.j2] at h, fun _ _ _ _ _ _ _ _ _ _ r h => by simp [spec_EventOk.j3] at h, fun _ _ _ _ _ _ _ _ _ r h => by simp [spec_EventOk.j4] at h⟩
  | k + 1 => by
    obtain ⟨ih0, ih1, ih2, ih3, ih4⟩ := spec_EventOk.mono_l k
    refine ⟨?_, ?_, ?_, ?_, ?_⟩
    · intro y0 y1 y2 y3 y4 y5 y6 y7 y8
      unfold spec_EventOk.j0
      repeat' first
      | (with_reducible exact ih0 _ _ _ _ _ _ _ _ _)
      | (with_reducible exact ih1 _ _ _ _ _ _ _ _ _ _ _)
      | (with_reducible exact ih2 _ _ _ _ _ _ _ _ _ _ _)
      | (with_reducible exact ih3 _ _ _ _ _ _ _ _ _ _)
      | (with_reducible exact ih4 _ _ _ _ _ _ _ _ _)
      | (with_reducible exact spec_l09Name.mono _ _)
      | (with_reducible exact LeO.refl _)
      | (with_reducible exact LeO.none _)
      | (with_reducible refine LeO.ite ?_ ?_)
      | (with_reducible refine LeO.bind ?_ (fun _ => ?_))
      | exact ih0 _ _ _ _ _ _ _ _ _
      | exact ih1 _ _ _ _ _ _ _ _ _ _ _
      | exact ih2 _ _ _ _ _ _ _ _ _ _ _
      | exact ih3 _ _ _ _ _ _ _ _ _ _
      | exact ih4 _ _ _ _ _ _ _ _ _
      | exact spec_l09Name.mono _ _
      | exact LeO.none _
      | refine LeO.ite ?_ ?_
      | refine LeO.bind ?_ (fun _ => ?_)
    · intro y0 y1 y2 y3 y4 y5 y6 y7 y8 y9 y10
      unfold spec_EventOk.j1
      repeat' first
      | (with_reducible exact ih0 _ _ _ _ _ _ _ _ _)
      | (with_reducible exact ih1 _ _ _ _ _ _ _ _ _ _ _)
      | (with_reducible exact ih2 _ _ _ _ _ _ _ _ _ _ _)
      | (with_reducible exact ih3 _ _ _ _ _ _ _ _ _ _)
      | (with_reducible exact ih4 _ _ _ _ _ _ _ _ _)
      | (with_reducible exact spec_l09Name.mono _ _)
      | (with_reducible exact LeO.refl _)
      | (with_reducible exact LeO.none _)
      | (with_reducible refine LeO.ite ?_ ?_)
      | (with_reducible refine LeO.bind ?_ (fun _ => ?_))
      | exact ih0 _ _ _ _ _ _ _ _ _
      | exact ih1 _ _ _ _ _ _ _ _ _ _ _
      | exact ih2 _ _ _ _ _ _ _ _ _ _ _
      | exact ih3 _ _ _ _ _ _ _ _ _ _
      | exact ih4 _ _ _ _ _ _ _ _ _
      | exact spec_l09Name.mono _ _
      | exact LeO.none _
      | refine LeO.ite ?_ ?_
      | refine LeO.bind ?_ (fun _ => ?_)
    · intro y0 y1 y2 y3 y4 y5 y6 y7 y8 y9 y10
      unfold spec_EventOk.j2
      repeat' first
      | (with_reducible exact ih0 _ _ _ _ _ _ _ _ _)
      | (with_reducible exact ih1 _ _ _ _ _ _ _ _ _ _ _)
      | (with_reducible exact ih2 _ _ _ _ _ _ _ _ _ _ _)
      | (with_reducible exact ih3 _ _ _ _ _ _ _ _ _ _)
      | (with_reducible exact ih4 _ _ _ _ _ _ _ _ _)
      | (with_reducible exact spec_l09Name.mono _ _)
      | (with_reducible exact LeO.refl _)
      | (with_reducible exact LeO.none _)
      | (with_reducible refine LeO.ite ?_ ?_)
      | (with_reducible refine LeO.bind ?_ (fun _ => ?_))
      | exact ih0 _ _ _ _ _ _ _ _ _
      | exact ih1 _ _ _ _ _ _ _ _ _ _ _
      | exact ih2 _ _ _ _ _ _ _ _ _ _ _
      | exact ih3 _ _ _ _ _ _ _ _ _ _
      | exact ih4 _ _ _ _ _ _ _ _ _
      | exact spec_l09Name.mono _ _
      | exact LeO.none _
      | refine LeO.ite ?_ ?_
      | refine LeO.bind ?_ (fun _ => ?_)
    · intro y0 y1 y2 y3 y4 y5 y6 y7 y8 y9
      unfold spec_EventOk.j3
      repeat' first
      | (with_reducible exact ih0 _ _ _ _ _ _ _ _ _)
      | (with_reducible exact ih1 _ _ _ _ _ _ _ _ _ _ _)
      | (with_reducible exact ih2 _ _ _ _ _ _ _ _ _ _ _)
      | (with_reducible exact ih3 _ _ _ _ _ _ _ _ _ _)
      | (with_reducible exact ih4 _ _ _ _ _ _ _ _ _)
      | (with_reducible exact spec_l09Name.mono _ _)
      | (with_reducible exact LeO.refl _)
      | (with_reducible exact LeO.none _)
      | (with_reducible refine LeO.ite ?_ ?_)
      | (with_reducible refine LeO.bind ?_ (fun _ => ?_))
      | exact ih0 _ _ _ _ _ _ _ _ _
      | exact ih1 _ _ _ _ _ _ _ _ _ _ _
      | exact ih2 _ _ _ _ _ _ _ _ _ _ _
      | exact ih3 _ _ _ _ _ _ _ _ _ _
      | exact ih4 _ _ _ _ _ _ _ _ _
      | exact spec_l09Name.mono _ _
      | exact LeO.none _
      | refine LeO.ite ?_ ?_
      | refine LeO.bind ?_ (fun _ => ?_)
    · intro y0 y1 y2 y3 y4 y5 y6 y7 y8
      unfold spec_EventOk.j4
      repeat' first
      | (with_reducible exact ih0 _ _ _ _ _ _ _ _ _)
      | (with_reducible exact ih1 _ _ _ _ _ _ _ _ _ _ _)
      | (with_reducible exact ih2 _ _ _ _ _ _ _ _ _ _ _)
      | (with_reducible exact ih3 _ _ _ _ _ _ _ _ _ _)
      | (with_reducible exact ih4 _ _ _ _ _ _ _ _ _)
      | (with_reducible exact spec_l09Name.mono _ _)
      | (with_reducible exact LeO.refl _)
      | (with_reducible exact LeO.none _)
      | (with_reducible refine LeO.ite ?_ ?_)
      | (with_reducible refine LeO.bind ?_ (fun _ => ?_))
      | exact ih0 _ _ _ _ _ _ _ _ _
      | exact ih1 _ _ _ _ _ _ _ _ _ _ _
      | exact ih2 _ _ _ _ _ _ _ _ _ _ _
      | exact ih3 _ _ _ _ _ _ _ _ _ _
      | exact ih4 _ _ _ _ _ _ _ _ _
      | exact spec_l09Name.mono _ _
      | exact LeO.none _
      | refine LeO.ite ?_ ?_
      | refine LeO.bind ?_ (fun _ => ?_)
theorem spec_EventOk.mono : ∀ a0 a1 a2 a3 a4 a5 a6 a7 k, LeO (spec_EventOk.f k a0 a1 a2 a3 a4 a5 a6 a7) (spec_EventOk.f (k + 1) a0 a1 a2 a3 a4 a5 a6 a7) := by
  intro a0 a1 a2 a3 a4 a5 a6 a7 k
  obtain ⟨ih0, ih1, ih2, ih3, ih4⟩ := spec_EventOk.mono_l k
  unfold spec_EventOk.f
  repeat' first
      | (with_reducible exact ih0 _ _ _ _ _ _ _ _ _)
      | (with_reducible exact ih1 _ _ _ _ _ _ _ _ _ _ _)
      | (with_reducible exact ih2 _ _ _ _ _ _ _ _ _ _ _)
      | (with_reducible exact ih3 _ _ _ _ _ _ _ _ _ _)
      | (with_reducible exact ih4 _ _ _ _ _ _ _ _ _)
      | (with_reducible exact spec_l09Name.mono _ _)
      | (with_reducible exact LeO.refl _)
      | (with_reducible exact LeO.none _)
      | (with_reducible refine LeO.ite ?_ ?_)
      | (with_reducible refine LeO.bind ?_ (fun _ => ?_))
      | exact ih0 _ _ _ _ _ _ _ _ _
      | exact ih1 _ _ _ _ _ _ _ _ _ _ _
      | exact ih2 _ _ _ _ _ _ _ _ _ _ _
      | exact ih3 _ _ _ _ _ _ _ _ _ _
      | exact ih4 _ _ _ _ _ _ _ _ _
      | exact spec_l09Name.mono _ _
      | exact LeO.none _
      | refine LeO.ite ?_ ?_
      | refine LeO.bind ?_ (fun _ => ?_)
set_option maxHeartbeats 8000000 in
set_option maxRecDepth 100000 in
theorem spec_EventOk.calls (k : Nat) (a0_0 : Int) (a0_1 : Int) (a0_2 : Bool) (a0_3 : ByteArray) (a0_4 : ByteArray) (a0_5 : ByteArray) (a0_6 : Int) (a0_7 : Int) (r : Bool) (w : World) (h : spec_EventOk.f k a0_0 a0_1 a0_2 a0_3 a0_4 a0_5 a0_6 a0_7 = some r) :
    Calls Try.prog 11 #[.agg #[.int .i64 a0_0, .int .i64 a0_1, .bool a0_2, .string a0_3, .string a0_4, .string a0_5, .int .i64 a0_6, .int .i64 a0_7]] w fun e w' => e = .returned (.bool r) ∧ Below w.heap.size w w' := by
  have hu29 := Try.underlying29
  have HB := Aside0.mk (Below.refl w.heap.size w)
  have H : (if a0_0 = 3 then (spec_EventOk.j0 k true a0_0 a0_1 a0_2 a0_3 a0_4 a0_5 a0_6 a0_7) else (if a0_0 = 4 then (spec_EventOk.j0 k true a0_0 a0_1 a0_2 a0_3 a0_4 a0_5 a0_6 a0_7) else (spec_EventOk.j0 k (a0_0 == 5) a0_0 a0_1 a0_2 a0_3 a0_4 a0_5 a0_6 a0_7))) = some r := h
  clear h
  have HC2 := Aside0.mk H
  clear H
  go_enter Try.func11, Try.ntmps11
  go_upto_region 1 with (first | ((with_reducible refine gate_dst (N := 1) rfl ?_); (try (refine gate_guard (by rfl) ?_; dsimp only)); refine box_event ?hg (N := 1) ?hd (cs := #[.int .i64 a0_0, .int .i64 a0_1, .bool a0_2, .string a0_3, .string a0_4, .string a0_5, .int .i64 a0_6, .int .i64 a0_7]) (t := 29) ?hr ?_; (case hd => rfl); (case hg => rfl); (case hr => first | (go_simp; done) | (go_simp; rfl)); intro gb109 hg w3 hbox hb; have n0_ := Aside0.mk (below_step (by repeat (first | (with_reducible first | exact HB.out | apply below_alloc | apply pw_below_drewN | apply below_drew1) | exact HB.out)) hb); have n1_ := Aside0.mk (hbox); have n2_ := Aside0.mk ((by rw [hg]; exact (below_size (by repeat (first | (with_reducible first | exact HB.out | apply below_alloc | apply pw_below_drewN | apply below_drew1) | exact HB.out))) : w.heap.size ≤ gb109)); have n3_ := Aside0.mk ((by rw [hg]; exact (below_size (by repeat (first | (with_reducible first | exact HB.out | apply below_alloc | apply pw_below_drewN | apply below_drew1) | exact HB.out))) : w.heap.size ≤ gb109)); clear HB; have HB := n0_; have BK109 := n1_; have GW109 := n2_; have GE109 := n3_; clear n0_ n1_ n2_ n3_; clear hb hbox hg))
  (try simp only [Act.put, List.setIfInBounds_toArray, List.set_cons_zero, List.set_cons_succ])
  go_cut [3] (fun v3 wc => ∃ (kq : Nat) (x3_1 : Bool), v3 = .bool x3_1 ∧ Aside0 (spec_EventOk.j0 kq x3_1 a0_0 a0_1 a0_2 a0_3 a0_4 a0_5 a0_6 a0_7 = some r) ∧ Aside0 (kq ≤ k) ∧ Aside0 (wc.heap[gb109]? = some (.cells #[.int .i64 a0_0, .int .i64 a0_1, .bool a0_2, .string a0_3, .string a0_4, .string a0_5, .int .i64 a0_6, .int .i64 a0_7] 29 (0, 0))) ∧ Aside0 (Below w.heap.size w wc))
  case first => as_aux_lemma =>
    have H := HC2.out
    clear HC2
    by_cases c4 : a0_0 = 3
    · as_aux_lemma =>
      rw [if_pos c4] at H
      have c4b0 : (a0_0 == 3) = true := beq_iff_eq.mpr c4
      have c4b1 : (a0_0 != 3) = false := bne_eq_false_iff_eq.mpr c4
      clear c4
      (first | rw [c4b0] | (simp only [i64_w, i32_w]; rw [c4b0]) | skip)
      have H' := Aside0.mk H
      clear H
      have hcz5_0 : w3.cell? ⟨gb109, 0, none⟩ = some (.int .i64 a0_0) := (blk_cell BK109.out 0).trans rfl
      have hcz5_1 : w3.cell? ⟨gb109, 1, none⟩ = some (.int .i64 a0_1) := (blk_cell BK109.out 1).trans rfl
      have hcz5_2 : w3.cell? ⟨gb109, 2, none⟩ = some (.bool a0_2) := (blk_cell BK109.out 2).trans rfl
      have hcz5_3 : w3.cell? ⟨gb109, 3, none⟩ = some (.string a0_3) := (blk_cell BK109.out 3).trans rfl
      have hcz5_4 : w3.cell? ⟨gb109, 4, none⟩ = some (.string a0_4) := (blk_cell BK109.out 4).trans rfl
      have hcz5_5 : w3.cell? ⟨gb109, 5, none⟩ = some (.string a0_5) := (blk_cell BK109.out 5).trans rfl
      have hcz5_6 : w3.cell? ⟨gb109, 6, none⟩ = some (.int .i64 a0_6) := (blk_cell BK109.out 6).trans rfl
      have hcz5_7 : w3.cell? ⟨gb109, 7, none⟩ = some (.int .i64 a0_7) := (blk_cell BK109.out 7).trans rfl
      have hfz5_0 := blk_frozen BK109.out 0
      have hfz5_1 := blk_frozen BK109.out 1
      have hfz5_2 := blk_frozen BK109.out 2
      have hfz5_3 := blk_frozen BK109.out 3
      have hfz5_4 := blk_frozen BK109.out 4
      have hfz5_5 := blk_frozen BK109.out 5
      have hfz5_6 := blk_frozen BK109.out 6
      have hfz5_7 := blk_frozen BK109.out 7
      go_wp2
      go_meet
      case rel => exact ⟨_, (true), (by first | rfl | (simp; done) | (simp [*]; done)), H', ⟨by first | omega | exact Nat.le_refl _⟩, ⟨by (with_reducible repeat (first | refine blk_drewN ?_ _ | refine blk_drew ?_ | refine blk_alloc ?_ _)); exact BK109.out⟩, ⟨by repeat (first | (with_reducible first | exact HB.out | apply below_alloc | apply pw_below_drewN | apply below_drew1 | refine below_set ?_ GE109.out) | exact HB.out)⟩⟩
    · as_aux_lemma =>
      rw [if_neg c4] at H
      have c4b0 : (a0_0 == 3) = false := beq_eq_false_iff_ne.mpr c4
      have c4b1 : (a0_0 != 3) = true := bne_iff_ne.mpr c4
      (first | rw [c4b0] | (simp only [i64_w, i32_w]; rw [c4b0]) | skip)
      by_cases c6 : a0_0 = 4
      · as_aux_lemma =>
        rw [if_pos c6] at H
        have c6b0 : (a0_0 == 4) = true := beq_iff_eq.mpr c6
        have c6b1 : (a0_0 != 4) = false := bne_eq_false_iff_eq.mpr c6
        clear c6
        have H' := Aside0.mk H
        clear H
        have hcz7_0 : w3.cell? ⟨gb109, 0, none⟩ = some (.int .i64 a0_0) := (blk_cell BK109.out 0).trans rfl
        have hcz7_1 : w3.cell? ⟨gb109, 1, none⟩ = some (.int .i64 a0_1) := (blk_cell BK109.out 1).trans rfl
        have hcz7_2 : w3.cell? ⟨gb109, 2, none⟩ = some (.bool a0_2) := (blk_cell BK109.out 2).trans rfl
        have hcz7_3 : w3.cell? ⟨gb109, 3, none⟩ = some (.string a0_3) := (blk_cell BK109.out 3).trans rfl
        have hcz7_4 : w3.cell? ⟨gb109, 4, none⟩ = some (.string a0_4) := (blk_cell BK109.out 4).trans rfl
        have hcz7_5 : w3.cell? ⟨gb109, 5, none⟩ = some (.string a0_5) := (blk_cell BK109.out 5).trans rfl
        have hcz7_6 : w3.cell? ⟨gb109, 6, none⟩ = some (.int .i64 a0_6) := (blk_cell BK109.out 6).trans rfl
        have hcz7_7 : w3.cell? ⟨gb109, 7, none⟩ = some (.int .i64 a0_7) := (blk_cell BK109.out 7).trans rfl
        have hfz7_0 := blk_frozen BK109.out 0
        have hfz7_1 := blk_frozen BK109.out 1
        have hfz7_2 := blk_frozen BK109.out 2
        have hfz7_3 := blk_frozen BK109.out 3
        have hfz7_4 := blk_frozen BK109.out 4
        have hfz7_5 := blk_frozen BK109.out 5
        have hfz7_6 := blk_frozen BK109.out 6
        have hfz7_7 := blk_frozen BK109.out 7
        go_wp2
        go_meet
        case rel => exact ⟨_, (true), (by first | rfl | (simp; done) | (simp [*]; done)), H', ⟨by first | omega | exact Nat.le_refl _⟩, ⟨by (with_reducible repeat (first | refine blk_drewN ?_ _ | refine blk_drew ?_ | refine blk_alloc ?_ _)); exact BK109.out⟩, ⟨by repeat (first | (with_reducible first | exact HB.out | apply below_alloc | apply pw_below_drewN | apply below_drew1 | refine below_set ?_ GE109.out) | exact HB.out)⟩⟩
      · as_aux_lemma =>
        rw [if_neg c6] at H
        have c6b0 : (a0_0 == 4) = false := beq_eq_false_iff_ne.mpr c6
        have c6b1 : (a0_0 != 4) = true := bne_iff_ne.mpr c6
        have H' := Aside0.mk H
        clear H
        have hcz8_0 : w3.cell? ⟨gb109, 0, none⟩ = some (.int .i64 a0_0) := (blk_cell BK109.out 0).trans rfl
        have hcz8_1 : w3.cell? ⟨gb109, 1, none⟩ = some (.int .i64 a0_1) := (blk_cell BK109.out 1).trans rfl
        have hcz8_2 : w3.cell? ⟨gb109, 2, none⟩ = some (.bool a0_2) := (blk_cell BK109.out 2).trans rfl
        have hcz8_3 : w3.cell? ⟨gb109, 3, none⟩ = some (.string a0_3) := (blk_cell BK109.out 3).trans rfl
        have hcz8_4 : w3.cell? ⟨gb109, 4, none⟩ = some (.string a0_4) := (blk_cell BK109.out 4).trans rfl
        have hcz8_5 : w3.cell? ⟨gb109, 5, none⟩ = some (.string a0_5) := (blk_cell BK109.out 5).trans rfl
        have hcz8_6 : w3.cell? ⟨gb109, 6, none⟩ = some (.int .i64 a0_6) := (blk_cell BK109.out 6).trans rfl
        have hcz8_7 : w3.cell? ⟨gb109, 7, none⟩ = some (.int .i64 a0_7) := (blk_cell BK109.out 7).trans rfl
        have hfz8_0 := blk_frozen BK109.out 0
        have hfz8_1 := blk_frozen BK109.out 1
        have hfz8_2 := blk_frozen BK109.out 2
        have hfz8_3 := blk_frozen BK109.out 3
        have hfz8_4 := blk_frozen BK109.out 4
        have hfz8_5 := blk_frozen BK109.out 5
        have hfz8_6 := blk_frozen BK109.out 6
        have hfz8_7 := blk_frozen BK109.out 7
        go_wp2
        go_meet
        case rel => exact ⟨_, ((a0_0 == 5)), (by first | rfl | (simp; done) | (simp [*]; done)), H', ⟨by first | omega | exact Nat.le_refl _⟩, ⟨by (with_reducible repeat (first | refine blk_drewN ?_ _ | refine blk_drew ?_ | refine blk_alloc ?_ _)); exact BK109.out⟩, ⟨by repeat (first | (with_reducible first | exact HB.out | apply below_alloc | apply pw_below_drewN | apply below_drew1 | refine below_set ?_ GE109.out) | exact HB.out)⟩⟩
  case rest => as_aux_lemma =>
    clear HC2
    try clear c1
    try clear p2
    try clear c4
    try clear c4b0
    try clear c4b1
    try clear c6
    try clear c6b0
    try clear c6b1
    try clear hcz5_0
    try clear hcz5_1
    try clear hcz5_2
    try clear hcz5_3
    try clear hcz5_4
    try clear hcz5_5
    try clear hcz5_6
    try clear hcz5_7
    try clear hcz7_0
    try clear hcz7_1
    try clear hcz7_2
    try clear hcz7_3
    try clear hcz7_4
    try clear hcz7_5
    try clear hcz7_6
    try clear hcz7_7
    try clear hcz8_0
    try clear hcz8_1
    try clear hcz8_2
    try clear hcz8_3
    try clear hcz8_4
    try clear hcz8_5
    try clear hcz8_6
    try clear hcz8_7
    try clear hfz5_0
    try clear hfz5_1
    try clear hfz5_2
    try clear hfz5_3
    try clear hfz5_4
    try clear hfz5_5
    try clear hfz5_6
    try clear hfz5_7
    try clear hfz7_0
    try clear hfz7_1
    try clear hfz7_2
    try clear hfz7_3
    try clear hfz7_4
    try clear hfz7_5
    try clear hfz7_6
    try clear hfz7_7
    try clear hfz8_0
    try clear hfz8_1
    try clear hfz8_2
    try clear hfz8_3
    try clear hfz8_4
    try clear hfz8_5
    try clear hfz8_6
    try clear hfz8_7
    obtain ⟨kq, x3_1, rfl, HA, HJ1, BK109, HB⟩ := hcut
    cases kq with
    | zero => exact absurd HA.out (by simp [spec_EventOk.j0])
    | succ kj1 =>
      have H := HA.out
      clear HA
      simp only [spec_EventOk.j0] at H
      have HC9 := Aside0.mk H
      clear H
      go_upto_if 19 with (fail)
      go_cut [4, 5] (fun v4 v5 wc => ∃ (kq : Nat) (x4_8 : Int) (x5_8 : Int), v4 = .int .i64 x4_8 ∧ v5 = .int .i64 x5_8 ∧ Aside0 (spec_EventOk.j1 kq x3_1 x4_8 x5_8 a0_0 a0_1 a0_2 a0_3 a0_4 a0_5 a0_6 a0_7 = some r) ∧ Aside0 (kq ≤ kj1) ∧ Aside0 (wc.heap[gb109]? = some (.cells #[.int .i64 a0_0, .int .i64 a0_1, .bool a0_2, .string a0_3, .string a0_4, .string a0_5, .int .i64 a0_6, .int .i64 a0_7] 29 (0, 0))) ∧ Aside0 (Below w.heap.size w wc))
      case first => as_aux_lemma =>
        have H := HC9.out
        clear HC9
        by_cases c10 : x3_1 = true
        · subst c10
          have H1 : (spec_EventOk.j1 kj1 true 6 7 a0_0 a0_1 a0_2 a0_3 a0_4 a0_5 a0_6 a0_7) = some r := by rw [if_pos rfl] at H; exact H
          clear H
          have H := H1
          clear H1
          have H' := Aside0.mk H
          clear H
          go_wp2
          go_meet
          case rel => exact ⟨_, (6), (7), (by first | rfl | (simp; done) | (simp [*]; done)), (by first | rfl | (simp; done) | (simp [*]; done)), H', ⟨by have := HJ1.out; first | omega | exact Nat.le_refl _⟩, ⟨by (with_reducible repeat (first | refine blk_drewN ?_ _ | refine blk_drew ?_ | refine blk_alloc ?_ _)); exact BK109.out⟩, ⟨by repeat (first | (with_reducible first | exact HB.out | apply below_alloc | apply pw_below_drewN | apply below_drew1 | refine below_set ?_ GE109.out) | exact HB.out)⟩⟩
        · replace c10 := Bool.eq_false_iff.mpr c10
          subst c10
          have H1 : (spec_EventOk.j1 kj1 false 0 0 a0_0 a0_1 a0_2 a0_3 a0_4 a0_5 a0_6 a0_7) = some r := by rw [if_neg (show ¬ (false = true) by decide)] at H; exact H
          clear H
          have H := H1
          clear H1
          have H' := Aside0.mk H
          clear H
          go_wp2
          go_meet
          case rel => exact ⟨_, (0), (0), (by first | rfl | (simp; done) | (simp [*]; done)), (by first | rfl | (simp; done) | (simp [*]; done)), H', ⟨by have := HJ1.out; first | omega | exact Nat.le_refl _⟩, ⟨by (with_reducible repeat (first | refine blk_drewN ?_ _ | refine blk_drew ?_ | refine blk_alloc ?_ _)); exact BK109.out⟩, ⟨by repeat (first | (with_reducible first | exact HB.out | apply below_alloc | apply pw_below_drewN | apply below_drew1 | refine below_set ?_ GE109.out) | exact HB.out)⟩⟩
      case rest => as_aux_lemma =>
        clear HC9
        try clear c1
        try clear p2
        try clear c4
        try clear c4b0
        try clear c4b1
        try clear c6
        try clear c6b0
        try clear c6b1
        try clear c10
        try clear hcz5_0
        try clear hcz5_1
        try clear hcz5_2
        try clear hcz5_3
        try clear hcz5_4
        try clear hcz5_5
        try clear hcz5_6
        try clear hcz5_7
        try clear hcz7_0
        try clear hcz7_1
        try clear hcz7_2
        try clear hcz7_3
        try clear hcz7_4
        try clear hcz7_5
        try clear hcz7_6
        try clear hcz7_7
        try clear hcz8_0
        try clear hcz8_1
        try clear hcz8_2
        try clear hcz8_3
        try clear hcz8_4
        try clear hcz8_5
        try clear hcz8_6
        try clear hcz8_7
        try clear hfz5_0
        try clear hfz5_1
        try clear hfz5_2
        try clear hfz5_3
        try clear hfz5_4
        try clear hfz5_5
        try clear hfz5_6
        try clear hfz5_7
        try clear hfz7_0
        try clear hfz7_1
        try clear hfz7_2
        try clear hfz7_3
        try clear hfz7_4
        try clear hfz7_5
        try clear hfz7_6
        try clear hfz7_7
        try clear hfz8_0
        try clear hfz8_1
        try clear hfz8_2
        try clear hfz8_3
        try clear hfz8_4
        try clear hfz8_5
        try clear hfz8_6
        try clear hfz8_7
        try clear p2
        obtain ⟨kq, x4_8, x5_8, rfl, rfl, HA, HJ8, BK109, HB⟩ := hcut
        cases kq with
        | zero => exact absurd HA.out (by simp [spec_EventOk.j1])
        | succ kj8 =>
          have H := HA.out
          clear HA
          simp only [spec_EventOk.j1] at H
          have HC11 := Aside0.mk H
          clear H
          have hcz12_0 : wc.cell? ⟨gb109, 0, none⟩ = some (.int .i64 a0_0) := (blk_cell BK109.out 0).trans rfl
          have hcz12_1 : wc.cell? ⟨gb109, 1, none⟩ = some (.int .i64 a0_1) := (blk_cell BK109.out 1).trans rfl
          have hcz12_2 : wc.cell? ⟨gb109, 2, none⟩ = some (.bool a0_2) := (blk_cell BK109.out 2).trans rfl
          have hcz12_3 : wc.cell? ⟨gb109, 3, none⟩ = some (.string a0_3) := (blk_cell BK109.out 3).trans rfl
          have hcz12_4 : wc.cell? ⟨gb109, 4, none⟩ = some (.string a0_4) := (blk_cell BK109.out 4).trans rfl
          have hcz12_5 : wc.cell? ⟨gb109, 5, none⟩ = some (.string a0_5) := (blk_cell BK109.out 5).trans rfl
          have hcz12_6 : wc.cell? ⟨gb109, 6, none⟩ = some (.int .i64 a0_6) := (blk_cell BK109.out 6).trans rfl
          have hcz12_7 : wc.cell? ⟨gb109, 7, none⟩ = some (.int .i64 a0_7) := (blk_cell BK109.out 7).trans rfl
          have hfz12_0 := blk_frozen BK109.out 0
          have hfz12_1 := blk_frozen BK109.out 1
          have hfz12_2 := blk_frozen BK109.out 2
          have hfz12_3 := blk_frozen BK109.out 3
          have hfz12_4 := blk_frozen BK109.out 4
          have hfz12_5 := blk_frozen BK109.out 5
          have hfz12_6 := blk_frozen BK109.out 6
          have hfz12_7 := blk_frozen BK109.out 7
          go_upto_if 22 with (fail)
          go_cut [4, 5] (fun v4 v5 wc => ∃ (kq : Nat) (x4_10 : Int) (x5_10 : Int), v4 = .int .i64 x4_10 ∧ v5 = .int .i64 x5_10 ∧ Aside0 (spec_EventOk.j2 kq x3_1 x4_10 x5_10 a0_0 a0_1 a0_2 a0_3 a0_4 a0_5 a0_6 a0_7 = some r) ∧ Aside0 (kq ≤ kj8) ∧ Aside0 (wc.heap[gb109]? = some (.cells #[.int .i64 a0_0, .int .i64 a0_1, .bool a0_2, .string a0_3, .string a0_4, .string a0_5, .int .i64 a0_6, .int .i64 a0_7] 29 (0, 0))) ∧ Aside0 (Below w.heap.size w wc))
          case first => as_aux_lemma =>
            have H := HC11.out
            clear HC11
            by_cases c13 : a0_0 = 5
            · as_aux_lemma =>
              rw [if_pos c13] at H
              have c13b0 : (a0_0 == 5) = true := beq_iff_eq.mpr c13
              have c13b1 : (a0_0 != 5) = false := bne_eq_false_iff_eq.mpr c13
              clear c13
              (first | rw [c13b0] | (simp only [i64_w, i32_w]; rw [c13b0]) | skip)
              have H' := Aside0.mk H
              clear H
              go_wp2
              go_meet
              case rel => exact ⟨_, (1), (5), (by first | rfl | (simp; done) | (simp [*]; done)), (by first | rfl | (simp; done) | (simp [*]; done)), H', ⟨by have := HJ1.out; have := HJ8.out; first | omega | exact Nat.le_refl _⟩, ⟨by (with_reducible repeat (first | refine blk_drewN ?_ _ | refine blk_drew ?_ | refine blk_alloc ?_ _)); exact BK109.out⟩, ⟨by repeat (first | (with_reducible first | exact HB.out | apply below_alloc | apply pw_below_drewN | apply below_drew1 | refine below_set ?_ GE109.out) | exact HB.out)⟩⟩
            · as_aux_lemma =>
              rw [if_neg c13] at H
              have c13b0 : (a0_0 == 5) = false := beq_eq_false_iff_ne.mpr c13
              have c13b1 : (a0_0 != 5) = true := bne_iff_ne.mpr c13
              (first | rw [c13b0] | (simp only [i64_w, i32_w]; rw [c13b0]) | skip)
              have H' := Aside0.mk H
              clear H
              go_wp2
              go_meet
              case rel => exact ⟨_, (x4_8), (x5_8), (by first | rfl | (simp; done) | (simp [*]; done)), (by first | rfl | (simp; done) | (simp [*]; done)), H', ⟨by have := HJ1.out; have := HJ8.out; first | omega | exact Nat.le_refl _⟩, ⟨by (with_reducible repeat (first | refine blk_drewN ?_ _ | refine blk_drew ?_ | refine blk_alloc ?_ _)); exact BK109.out⟩, ⟨by repeat (first | (with_reducible first | exact HB.out | apply below_alloc | apply pw_below_drewN | apply below_drew1 | refine below_set ?_ GE109.out) | exact HB.out)⟩⟩
          case rest => as_aux_lemma =>
            clear HC11
            try clear c1
            try clear p2
            try clear c4
            try clear c4b0
            try clear c4b1
            try clear c6
            try clear c6b0
            try clear c6b1
            try clear c10
            try clear c11
            try clear c13
            try clear c13b0
            try clear c13b1
            try clear hcz12_0
            try clear hcz12_1
            try clear hcz12_2
            try clear hcz12_3
            try clear hcz12_4
            try clear hcz12_5
            try clear hcz12_6
            try clear hcz12_7
            try clear hcz5_0
            try clear hcz5_1
            try clear hcz5_2
            try clear hcz5_3
            try clear hcz5_4
            try clear hcz5_5
            try clear hcz5_6
            try clear hcz5_7
            try clear hcz7_0
            try clear hcz7_1
            try clear hcz7_2
            try clear hcz7_3
            try clear hcz7_4
            try clear hcz7_5
            try clear hcz7_6
            try clear hcz7_7
            try clear hcz8_0
            try clear hcz8_1
            try clear hcz8_2
            try clear hcz8_3
            try clear hcz8_4
            try clear hcz8_5
            try clear hcz8_6
            try clear hcz8_7
            try clear hfz12_0
            try clear hfz12_1
            try clear hfz12_2
            try clear hfz12_3
            try clear hfz12_4
            try clear hfz12_5
            try clear hfz12_6
            try clear hfz12_7
            try clear hfz5_0
            try clear hfz5_1
            try clear hfz5_2
            try clear hfz5_3
            try clear hfz5_4
            try clear hfz5_5
            try clear hfz5_6
            try clear hfz5_7
            try clear hfz7_0
            try clear hfz7_1
            try clear hfz7_2
            try clear hfz7_3
            try clear hfz7_4
            try clear hfz7_5
            try clear hfz7_6
            try clear hfz7_7
            try clear hfz8_0
            try clear hfz8_1
            try clear hfz8_2
            try clear hfz8_3
            try clear hfz8_4
            try clear hfz8_5
            try clear hfz8_6
            try clear hfz8_7
            try clear p2
            obtain ⟨kq, x4_10, x5_10, rfl, rfl, HA, HJ10, BK109, HB⟩ := hcut
            cases kq with
            | zero => exact absurd HA.out (by simp [spec_EventOk.j2])
            | succ kj10 =>
              have H := HA.out
              clear HA
              simp only [spec_EventOk.j2] at H
              have HC14 := Aside0.mk H
              clear H
              go_upto_region 10 with (fail)
              go_cut [42] (fun v42 wc => ∃ (kq : Nat) (x42_13 : Bool), v42 = .bool x42_13 ∧ Aside0 (spec_EventOk.j3 kq x3_1 x42_13 a0_0 a0_1 a0_2 a0_3 a0_4 a0_5 a0_6 a0_7 = some r) ∧ Aside0 (kq ≤ kj10) ∧ Aside0 (wc.heap[gb109]? = some (.cells #[.int .i64 a0_0, .int .i64 a0_1, .bool a0_2, .string a0_3, .string a0_4, .string a0_5, .int .i64 a0_6, .int .i64 a0_7] 29 (0, 0))) ∧ Aside0 (Below w.heap.size w wc))
              case first => as_aux_lemma =>
                have H := HC14.out
                clear HC14
                by_cases c15 : a0_0 < 1
                · as_aux_lemma =>
                  rw [if_pos c15] at H
                  have c15b0 : decide (a0_0 < 1) = true := decide_eq_true c15
                  clear c15
                  (first | rw [c15b0] | (simp only [i64_w, i32_w]; rw [c15b0]) | skip)
                  have H' := Aside0.mk H
                  clear H
                  have hcz16_0 : wc.cell? ⟨gb109, 0, none⟩ = some (.int .i64 a0_0) := (blk_cell BK109.out 0).trans rfl
                  have hcz16_1 : wc.cell? ⟨gb109, 1, none⟩ = some (.int .i64 a0_1) := (blk_cell BK109.out 1).trans rfl
                  have hcz16_2 : wc.cell? ⟨gb109, 2, none⟩ = some (.bool a0_2) := (blk_cell BK109.out 2).trans rfl
                  have hcz16_3 : wc.cell? ⟨gb109, 3, none⟩ = some (.string a0_3) := (blk_cell BK109.out 3).trans rfl
                  have hcz16_4 : wc.cell? ⟨gb109, 4, none⟩ = some (.string a0_4) := (blk_cell BK109.out 4).trans rfl
                  have hcz16_5 : wc.cell? ⟨gb109, 5, none⟩ = some (.string a0_5) := (blk_cell BK109.out 5).trans rfl
                  have hcz16_6 : wc.cell? ⟨gb109, 6, none⟩ = some (.int .i64 a0_6) := (blk_cell BK109.out 6).trans rfl
                  have hcz16_7 : wc.cell? ⟨gb109, 7, none⟩ = some (.int .i64 a0_7) := (blk_cell BK109.out 7).trans rfl
                  have hfz16_0 := blk_frozen BK109.out 0
                  have hfz16_1 := blk_frozen BK109.out 1
                  have hfz16_2 := blk_frozen BK109.out 2
                  have hfz16_3 := blk_frozen BK109.out 3
                  have hfz16_4 := blk_frozen BK109.out 4
                  have hfz16_5 := blk_frozen BK109.out 5
                  have hfz16_6 := blk_frozen BK109.out 6
                  have hfz16_7 := blk_frozen BK109.out 7
                  go_wp2
                  go_meet
                  case rel => exact ⟨_, (true), (by first | rfl | (simp; done) | (simp [*]; done)), H', ⟨by have := HJ1.out; have := HJ8.out; have := HJ10.out; first | omega | exact Nat.le_refl _⟩, ⟨by (with_reducible repeat (first | refine blk_drewN ?_ _ | refine blk_drew ?_ | refine blk_alloc ?_ _)); exact BK109.out⟩, ⟨by repeat (first | (with_reducible first | exact HB.out | apply below_alloc | apply pw_below_drewN | apply below_drew1 | refine below_set ?_ GE109.out) | exact HB.out)⟩⟩
                · as_aux_lemma =>
                  rw [if_neg c15] at H
                  have c15b0 : decide (a0_0 < 1) = false := decide_eq_false c15
                  clear c15
                  (first | rw [c15b0] | (simp only [i64_w, i32_w]; rw [c15b0]) | skip)
                  by_cases c17 : a0_0 > 10
                  · as_aux_lemma =>
                    rw [if_pos c17] at H
                    have c17b0 : decide (10 < a0_0) = true := decide_eq_true c17
                    clear c17
                    have H' := Aside0.mk H
                    clear H
                    have hcz18_0 : wc.cell? ⟨gb109, 0, none⟩ = some (.int .i64 a0_0) := (blk_cell BK109.out 0).trans rfl
                    have hcz18_1 : wc.cell? ⟨gb109, 1, none⟩ = some (.int .i64 a0_1) := (blk_cell BK109.out 1).trans rfl
                    have hcz18_2 : wc.cell? ⟨gb109, 2, none⟩ = some (.bool a0_2) := (blk_cell BK109.out 2).trans rfl
                    have hcz18_3 : wc.cell? ⟨gb109, 3, none⟩ = some (.string a0_3) := (blk_cell BK109.out 3).trans rfl
                    have hcz18_4 : wc.cell? ⟨gb109, 4, none⟩ = some (.string a0_4) := (blk_cell BK109.out 4).trans rfl
                    have hcz18_5 : wc.cell? ⟨gb109, 5, none⟩ = some (.string a0_5) := (blk_cell BK109.out 5).trans rfl
                    have hcz18_6 : wc.cell? ⟨gb109, 6, none⟩ = some (.int .i64 a0_6) := (blk_cell BK109.out 6).trans rfl
                    have hcz18_7 : wc.cell? ⟨gb109, 7, none⟩ = some (.int .i64 a0_7) := (blk_cell BK109.out 7).trans rfl
                    have hfz18_0 := blk_frozen BK109.out 0
                    have hfz18_1 := blk_frozen BK109.out 1
                    have hfz18_2 := blk_frozen BK109.out 2
                    have hfz18_3 := blk_frozen BK109.out 3
                    have hfz18_4 := blk_frozen BK109.out 4
                    have hfz18_5 := blk_frozen BK109.out 5
                    have hfz18_6 := blk_frozen BK109.out 6
                    have hfz18_7 := blk_frozen BK109.out 7
                    go_wp2
                    go_meet
                    case rel => exact ⟨_, (true), (by first | rfl | (simp; done) | (simp [*]; done)), H', ⟨by have := HJ1.out; have := HJ8.out; have := HJ10.out; first | omega | exact Nat.le_refl _⟩, ⟨by (with_reducible repeat (first | refine blk_drewN ?_ _ | refine blk_drew ?_ | refine blk_alloc ?_ _)); exact BK109.out⟩, ⟨by repeat (first | (with_reducible first | exact HB.out | apply below_alloc | apply pw_below_drewN | apply below_drew1 | refine below_set ?_ GE109.out) | exact HB.out)⟩⟩
                  · as_aux_lemma =>
                    rw [if_neg c17] at H
                    have c17b0 : decide (10 < a0_0) = false := decide_eq_false c17
                    clear c17
                    by_cases c19 : a0_1 < x4_10
                    · as_aux_lemma =>
                      rw [if_pos c19] at H
                      have c19b0 : decide (a0_1 < x4_10) = true := decide_eq_true c19
                      clear c19
                      have H' := Aside0.mk H
                      clear H
                      have hcz20_0 : wc.cell? ⟨gb109, 0, none⟩ = some (.int .i64 a0_0) := (blk_cell BK109.out 0).trans rfl
                      have hcz20_1 : wc.cell? ⟨gb109, 1, none⟩ = some (.int .i64 a0_1) := (blk_cell BK109.out 1).trans rfl
                      have hcz20_2 : wc.cell? ⟨gb109, 2, none⟩ = some (.bool a0_2) := (blk_cell BK109.out 2).trans rfl
                      have hcz20_3 : wc.cell? ⟨gb109, 3, none⟩ = some (.string a0_3) := (blk_cell BK109.out 3).trans rfl
                      have hcz20_4 : wc.cell? ⟨gb109, 4, none⟩ = some (.string a0_4) := (blk_cell BK109.out 4).trans rfl
                      have hcz20_5 : wc.cell? ⟨gb109, 5, none⟩ = some (.string a0_5) := (blk_cell BK109.out 5).trans rfl
                      have hcz20_6 : wc.cell? ⟨gb109, 6, none⟩ = some (.int .i64 a0_6) := (blk_cell BK109.out 6).trans rfl
                      have hcz20_7 : wc.cell? ⟨gb109, 7, none⟩ = some (.int .i64 a0_7) := (blk_cell BK109.out 7).trans rfl
                      have hfz20_0 := blk_frozen BK109.out 0
                      have hfz20_1 := blk_frozen BK109.out 1
                      have hfz20_2 := blk_frozen BK109.out 2
                      have hfz20_3 := blk_frozen BK109.out 3
                      have hfz20_4 := blk_frozen BK109.out 4
                      have hfz20_5 := blk_frozen BK109.out 5
                      have hfz20_6 := blk_frozen BK109.out 6
                      have hfz20_7 := blk_frozen BK109.out 7
                      go_wp2
                      go_meet
                      case rel => exact ⟨_, (true), (by first | rfl | (simp; done) | (simp [*]; done)), H', ⟨by have := HJ1.out; have := HJ8.out; have := HJ10.out; first | omega | exact Nat.le_refl _⟩, ⟨by (with_reducible repeat (first | refine blk_drewN ?_ _ | refine blk_drew ?_ | refine blk_alloc ?_ _)); exact BK109.out⟩, ⟨by repeat (first | (with_reducible first | exact HB.out | apply below_alloc | apply pw_below_drewN | apply below_drew1 | refine below_set ?_ GE109.out) | exact HB.out)⟩⟩
                    · as_aux_lemma =>
                      rw [if_neg c19] at H
                      have c19b0 : decide (a0_1 < x4_10) = false := decide_eq_false c19
                      clear c19
                      have H' := Aside0.mk H
                      clear H
                      have hcz21_0 : wc.cell? ⟨gb109, 0, none⟩ = some (.int .i64 a0_0) := (blk_cell BK109.out 0).trans rfl
                      have hcz21_1 : wc.cell? ⟨gb109, 1, none⟩ = some (.int .i64 a0_1) := (blk_cell BK109.out 1).trans rfl
                      have hcz21_2 : wc.cell? ⟨gb109, 2, none⟩ = some (.bool a0_2) := (blk_cell BK109.out 2).trans rfl
                      have hcz21_3 : wc.cell? ⟨gb109, 3, none⟩ = some (.string a0_3) := (blk_cell BK109.out 3).trans rfl
                      have hcz21_4 : wc.cell? ⟨gb109, 4, none⟩ = some (.string a0_4) := (blk_cell BK109.out 4).trans rfl
                      have hcz21_5 : wc.cell? ⟨gb109, 5, none⟩ = some (.string a0_5) := (blk_cell BK109.out 5).trans rfl
                      have hcz21_6 : wc.cell? ⟨gb109, 6, none⟩ = some (.int .i64 a0_6) := (blk_cell BK109.out 6).trans rfl
                      have hcz21_7 : wc.cell? ⟨gb109, 7, none⟩ = some (.int .i64 a0_7) := (blk_cell BK109.out 7).trans rfl
                      have hfz21_0 := blk_frozen BK109.out 0
                      have hfz21_1 := blk_frozen BK109.out 1
                      have hfz21_2 := blk_frozen BK109.out 2
                      have hfz21_3 := blk_frozen BK109.out 3
                      have hfz21_4 := blk_frozen BK109.out 4
                      have hfz21_5 := blk_frozen BK109.out 5
                      have hfz21_6 := blk_frozen BK109.out 6
                      have hfz21_7 := blk_frozen BK109.out 7
                      go_wp2
                      go_meet
                      case rel => exact ⟨_, (decide (a0_1 > x5_10)), (by first | rfl | (simp; done) | (simp [*]; done)), H', ⟨by have := HJ1.out; have := HJ8.out; have := HJ10.out; first | omega | exact Nat.le_refl _⟩, ⟨by (with_reducible repeat (first | refine blk_drewN ?_ _ | refine blk_drew ?_ | refine blk_alloc ?_ _)); exact BK109.out⟩, ⟨by repeat (first | (with_reducible first | exact HB.out | apply below_alloc | apply pw_below_drewN | apply below_drew1 | refine below_set ?_ GE109.out) | exact HB.out)⟩⟩
              case rest => as_aux_lemma =>
                clear HC14
                try clear c1
                try clear p2
                try clear c4
                try clear c4b0
                try clear c4b1
                try clear c6
                try clear c6b0
                try clear c6b1
                try clear c10
                try clear c11
                try clear c13
                try clear c13b0
                try clear c13b1
                try clear c15
                try clear c15b0
                try clear c17
                try clear c17b0
                try clear c19
                try clear c19b0
                try clear hcz12_0
                try clear hcz12_1
                try clear hcz12_2
                try clear hcz12_3
                try clear hcz12_4
                try clear hcz12_5
                try clear hcz12_6
                try clear hcz12_7
                try clear hcz16_0
                try clear hcz16_1
                try clear hcz16_2
                try clear hcz16_3
                try clear hcz16_4
                try clear hcz16_5
                try clear hcz16_6
                try clear hcz16_7
                try clear hcz18_0
                try clear hcz18_1
                try clear hcz18_2
                try clear hcz18_3
                try clear hcz18_4
                try clear hcz18_5
                try clear hcz18_6
                try clear hcz18_7
                try clear hcz20_0
                try clear hcz20_1
                try clear hcz20_2
                try clear hcz20_3
                try clear hcz20_4
                try clear hcz20_5
                try clear hcz20_6
                try clear hcz20_7
                try clear hcz21_0
                try clear hcz21_1
                try clear hcz21_2
                try clear hcz21_3
                try clear hcz21_4
                try clear hcz21_5
                try clear hcz21_6
                try clear hcz21_7
                try clear hcz5_0
                try clear hcz5_1
                try clear hcz5_2
                try clear hcz5_3
                try clear hcz5_4
                try clear hcz5_5
                try clear hcz5_6
                try clear hcz5_7
                try clear hcz7_0
                try clear hcz7_1
                try clear hcz7_2
                try clear hcz7_3
                try clear hcz7_4
                try clear hcz7_5
                try clear hcz7_6
                try clear hcz7_7
                try clear hcz8_0
                try clear hcz8_1
                try clear hcz8_2
                try clear hcz8_3
                try clear hcz8_4
                try clear hcz8_5
                try clear hcz8_6
                try clear hcz8_7
                try clear hfz12_0
                try clear hfz12_1
                try clear hfz12_2
                try clear hfz12_3
                try clear hfz12_4
                try clear hfz12_5
                try clear hfz12_6
                try clear hfz12_7
                try clear hfz16_0
                try clear hfz16_1
                try clear hfz16_2
                try clear hfz16_3
                try clear hfz16_4
                try clear hfz16_5
                try clear hfz16_6
                try clear hfz16_7
                try clear hfz18_0
                try clear hfz18_1
                try clear hfz18_2
                try clear hfz18_3
                try clear hfz18_4
                try clear hfz18_5
                try clear hfz18_6
                try clear hfz18_7
                try clear hfz20_0
                try clear hfz20_1
                try clear hfz20_2
                try clear hfz20_3
                try clear hfz20_4
                try clear hfz20_5
                try clear hfz20_6
                try clear hfz20_7
                try clear hfz21_0
                try clear hfz21_1
                try clear hfz21_2
                try clear hfz21_3
                try clear hfz21_4
                try clear hfz21_5
                try clear hfz21_6
                try clear hfz21_7
                try clear hfz5_0
                try clear hfz5_1
                try clear hfz5_2
                try clear hfz5_3
                try clear hfz5_4
                try clear hfz5_5
                try clear hfz5_6
                try clear hfz5_7
                try clear hfz7_0
                try clear hfz7_1
                try clear hfz7_2
                try clear hfz7_3
                try clear hfz7_4
                try clear hfz7_5
                try clear hfz7_6
                try clear hfz7_7
                try clear hfz8_0
                try clear hfz8_1
                try clear hfz8_2
                try clear hfz8_3
                try clear hfz8_4
                try clear hfz8_5
                try clear hfz8_6
                try clear hfz8_7
                try clear p2
                obtain ⟨kq, x42_13, rfl, HA, HJ13, BK109, HB⟩ := hcut
                cases kq with
                | zero => exact absurd HA.out (by simp [spec_EventOk.j3])
                | succ kj13 =>
                  have H := HA.out
                  clear HA
                  simp only [spec_EventOk.j3] at H
                  by_cases c22 : x42_13 = true
                  · subst c22
                    have H1 : (some false) = some r := by rw [if_pos rfl] at H; exact H
                    clear H
                    have H := H1
                    clear H1
                    obtain rfl := Option.some.inj H
                    go_wp2
                    go_ret
                    exact ⟨by first | rfl | (simp [errW_none, errW_some] <;> rfl) | (simp [*, errW_none, errW_some] <;> rfl), by repeat (first | (with_reducible first | exact HB.out | apply below_alloc | apply pw_below_drewN | apply below_drew1 | refine below_set ?_ GE109.out) | exact HB.out)⟩
                  · replace c22 := Bool.eq_false_iff.mpr c22
                    subst c22
                    have H1 : (if a0_2 = true then (if a0_0 = 2 then (if a0_3.toList = ([] : List UInt8) then (if a0_4.toList = ([] : List UInt8) then (if a0_5.toList = ([] : List UInt8) then (spec_EventOk.j4 kj13 false a0_0 a0_1 a0_2 a0_3 a0_4 a0_5 a0_6 a0_7) else (spec_EventOk.j4 kj13 (!x3_1) a0_0 a0_1 a0_2 a0_3 a0_4 a0_5 a0_6 a0_7)) else (spec_EventOk.j4 kj13 (!x3_1) a0_0 a0_1 a0_2 a0_3 a0_4 a0_5 a0_6 a0_7)) else (if a0_0 = 5 then (if a0_4.toList = ([] : List UInt8) then (if a0_5.toList = ([] : List UInt8) then (spec_EventOk.j4 kj13 false a0_0 a0_1 a0_2 a0_3 a0_4 a0_5 a0_6 a0_7) else (spec_EventOk.j4 kj13 (!x3_1) a0_0 a0_1 a0_2 a0_3 a0_4 a0_5 a0_6 a0_7)) else (spec_EventOk.j4 kj13 (!x3_1) a0_0 a0_1 a0_2 a0_3 a0_4 a0_5 a0_6 a0_7)) else (if a0_0 = 6 then (if a0_4.toList = ([] : List UInt8) then (if a0_5.toList = ([] : List UInt8) then (spec_EventOk.j4 kj13 false a0_0 a0_1 a0_2 a0_3 a0_4 a0_5 a0_6 a0_7) else (spec_EventOk.j4 kj13 (!x3_1) a0_0 a0_1 a0_2 a0_3 a0_4 a0_5 a0_6 a0_7)) else (spec_EventOk.j4 kj13 (!x3_1) a0_0 a0_1 a0_2 a0_3 a0_4 a0_5 a0_6 a0_7)) else (spec_EventOk.j4 kj13 true a0_0 a0_1 a0_2 a0_3 a0_4 a0_5 a0_6 a0_7)))) else (if a0_0 = 8 then (if a0_3.toList = ([] : List UInt8) then (if a0_4.toList = ([] : List UInt8) then (if a0_5.toList = ([] : List UInt8) then (spec_EventOk.j4 kj13 false a0_0 a0_1 a0_2 a0_3 a0_4 a0_5 a0_6 a0_7) else (spec_EventOk.j4 kj13 (!x3_1) a0_0 a0_1 a0_2 a0_3 a0_4 a0_5 a0_6 a0_7)) else (spec_EventOk.j4 kj13 (!x3_1) a0_0 a0_1 a0_2 a0_3 a0_4 a0_5 a0_6 a0_7)) else (if a0_0 = 5 then (if a0_4.toList = ([] : List UInt8) then (if a0_5.toList = ([] : List UInt8) then (spec_EventOk.j4 kj13 false a0_0 a0_1 a0_2 a0_3 a0_4 a0_5 a0_6 a0_7) else (spec_EventOk.j4 kj13 (!x3_1) a0_0 a0_1 a0_2 a0_3 a0_4 a0_5 a0_6 a0_7)) else (spec_EventOk.j4 kj13 (!x3_1) a0_0 a0_1 a0_2 a0_3 a0_4 a0_5 a0_6 a0_7)) else (if a0_0 = 6 then (if a0_4.toList = ([] : List UInt8) then (if a0_5.toList = ([] : List UInt8) then (spec_EventOk.j4 kj13 false a0_0 a0_1 a0_2 a0_3 a0_4 a0_5 a0_6 a0_7) else (spec_EventOk.j4 kj13 (!x3_1) a0_0 a0_1 a0_2 a0_3 a0_4 a0_5 a0_6 a0_7)) else (spec_EventOk.j4 kj13 (!x3_1) a0_0 a0_1 a0_2 a0_3 a0_4 a0_5 a0_6 a0_7)) else (spec_EventOk.j4 kj13 true a0_0 a0_1 a0_2 a0_3 a0_4 a0_5 a0_6 a0_7)))) else (spec_EventOk.j4 kj13 true a0_0 a0_1 a0_2 a0_3 a0_4 a0_5 a0_6 a0_7))) else (if a0_3.toList = ([] : List UInt8) then (if a0_4.toList = ([] : List UInt8) then (if a0_5.toList = ([] : List UInt8) then (spec_EventOk.j4 kj13 false a0_0 a0_1 a0_2 a0_3 a0_4 a0_5 a0_6 a0_7) else (spec_EventOk.j4 kj13 (!x3_1) a0_0 a0_1 a0_2 a0_3 a0_4 a0_5 a0_6 a0_7)) else (spec_EventOk.j4 kj13 (!x3_1) a0_0 a0_1 a0_2 a0_3 a0_4 a0_5 a0_6 a0_7)) else (if a0_0 = 5 then (if a0_4.toList = ([] : List UInt8) then (if a0_5.toList = ([] : List UInt8) then (spec_EventOk.j4 kj13 false a0_0 a0_1 a0_2 a0_3 a0_4 a0_5 a0_6 a0_7) else (spec_EventOk.j4 kj13 (!x3_1) a0_0 a0_1 a0_2 a0_3 a0_4 a0_5 a0_6 a0_7)) else (spec_EventOk.j4 kj13 (!x3_1) a0_0 a0_1 a0_2 a0_3 a0_4 a0_5 a0_6 a0_7)) else (if a0_0 = 6 then (if a0_4.toList = ([] : List UInt8) then (if a0_5.toList = ([] : List UInt8) then (spec_EventOk.j4 kj13 false a0_0 a0_1 a0_2 a0_3 a0_4 a0_5 a0_6 a0_7) else (spec_EventOk.j4 kj13 (!x3_1) a0_0 a0_1 a0_2 a0_3 a0_4 a0_5 a0_6 a0_7)) else (spec_EventOk.j4 kj13 (!x3_1) a0_0 a0_1 a0_2 a0_3 a0_4 a0_5 a0_6 a0_7)) else (spec_EventOk.j4 kj13 true a0_0 a0_1 a0_2 a0_3 a0_4 a0_5 a0_6 a0_7))))) = some r := by rw [if_neg (show ¬ (false = true) by decide)] at H; exact H
                    clear H
                    have H := H1
                    clear H1
                    have HC23 := Aside0.mk H
                    clear H
                    go_upto_region 12 with (fail)
                    go_cut [83] (fun v83 wc => ∃ (kq : Nat) (x83_22 : Bool), v83 = .bool x83_22 ∧ Aside0 (spec_EventOk.j4 kq x83_22 a0_0 a0_1 a0_2 a0_3 a0_4 a0_5 a0_6 a0_7 = some r) ∧ Aside0 (kq ≤ kj13) ∧ Aside0 (wc.heap[gb109]? = some (.cells #[.int .i64 a0_0, .int .i64 a0_1, .bool a0_2, .string a0_3, .string a0_4, .string a0_5, .int .i64 a0_6, .int .i64 a0_7] 29 (0, 0))) ∧ Aside0 (Below w.heap.size w wc))
                    case first => as_aux_lemma =>
                      have H := HC23.out
                      clear HC23
                      by_cases c24 : a0_2 = true
                      · subst c24
                        have H1 : (if a0_0 = 2 then (if a0_3.toList = ([] : List UInt8) then (if a0_4.toList = ([] : List UInt8) then (if a0_5.toList = ([] : List UInt8) then (spec_EventOk.j4 kj13 false a0_0 a0_1 true a0_3 a0_4 a0_5 a0_6 a0_7) else (spec_EventOk.j4 kj13 (!x3_1) a0_0 a0_1 true a0_3 a0_4 a0_5 a0_6 a0_7)) else (spec_EventOk.j4 kj13 (!x3_1) a0_0 a0_1 true a0_3 a0_4 a0_5 a0_6 a0_7)) else (if a0_0 = 5 then (if a0_4.toList = ([] : List UInt8) then (if a0_5.toList = ([] : List UInt8) then (spec_EventOk.j4 kj13 false a0_0 a0_1 true a0_3 a0_4 a0_5 a0_6 a0_7) else (spec_EventOk.j4 kj13 (!x3_1) a0_0 a0_1 true a0_3 a0_4 a0_5 a0_6 a0_7)) else (spec_EventOk.j4 kj13 (!x3_1) a0_0 a0_1 true a0_3 a0_4 a0_5 a0_6 a0_7)) else (if a0_0 = 6 then (if a0_4.toList = ([] : List UInt8) then (if a0_5.toList = ([] : List UInt8) then (spec_EventOk.j4 kj13 false a0_0 a0_1 true a0_3 a0_4 a0_5 a0_6 a0_7) else (spec_EventOk.j4 kj13 (!x3_1) a0_0 a0_1 true a0_3 a0_4 a0_5 a0_6 a0_7)) else (spec_EventOk.j4 kj13 (!x3_1) a0_0 a0_1 true a0_3 a0_4 a0_5 a0_6 a0_7)) else (spec_EventOk.j4 kj13 true a0_0 a0_1 true a0_3 a0_4 a0_5 a0_6 a0_7)))) else (if a0_0 = 8 then (if a0_3.toList = ([] : List UInt8) then (if a0_4.toList = ([] : List UInt8) then (if a0_5.toList = ([] : List UInt8) then (spec_EventOk.j4 kj13 false a0_0 a0_1 true a0_3 a0_4 a0_5 a0_6 a0_7) else (spec_EventOk.j4 kj13 (!x3_1) a0_0 a0_1 true a0_3 a0_4 a0_5 a0_6 a0_7)) else (spec_EventOk.j4 kj13 (!x3_1) a0_0 a0_1 true a0_3 a0_4 a0_5 a0_6 a0_7)) else (if a0_0 = 5 then (if a0_4.toList = ([] : List UInt8) then (if a0_5.toList = ([] : List UInt8) then (spec_EventOk.j4 kj13 false a0_0 a0_1 true a0_3 a0_4 a0_5 a0_6 a0_7) else (spec_EventOk.j4 kj13 (!x3_1) a0_0 a0_1 true a0_3 a0_4 a0_5 a0_6 a0_7)) else (spec_EventOk.j4 kj13 (!x3_1) a0_0 a0_1 true a0_3 a0_4 a0_5 a0_6 a0_7)) else (if a0_0 = 6 then (if a0_4.toList = ([] : List UInt8) then (if a0_5.toList = ([] : List UInt8) then (spec_EventOk.j4 kj13 false a0_0 a0_1 true a0_3 a0_4 a0_5 a0_6 a0_7) else (spec_EventOk.j4 kj13 (!x3_1) a0_0 a0_1 true a0_3 a0_4 a0_5 a0_6 a0_7)) else (spec_EventOk.j4 kj13 (!x3_1) a0_0 a0_1 true a0_3 a0_4 a0_5 a0_6 a0_7)) else (spec_EventOk.j4 kj13 true a0_0 a0_1 true a0_3 a0_4 a0_5 a0_6 a0_7)))) else (spec_EventOk.j4 kj13 true a0_0 a0_1 true a0_3 a0_4 a0_5 a0_6 a0_7))) = some r := by rw [if_pos rfl] at H; exact H
                        clear H
                        have H := H1
                        clear H1
                        by_cases c25 : a0_0 = 2
                        · as_aux_lemma =>
                          rw [if_pos c25] at H
                          have c25b0 : (a0_0 == 2) = true := beq_iff_eq.mpr c25
                          have c25b1 : (a0_0 != 2) = false := bne_eq_false_iff_eq.mpr c25
                          clear c25
                          (first | rw [c25b0] | (simp only [i64_w, i32_w]; rw [c25b0]) | skip)
                          by_cases c26 : a0_3.toList = ([] : List UInt8)
                          · as_aux_lemma =>
                            rw [if_pos c26] at H
                            have c26b14 : a0_3.toList.isEmpty = true := by rw [c26]; rfl
                            try rw [c26b14]
                            have c26b0 : (a0_3.toList == ([] : List UInt8)) = true := beq_iff_eq.mpr c26
                            have c26b1 : (a0_3.toList != ([] : List UInt8)) = false := bne_eq_false_iff_eq.mpr c26
                            clear c26
                            by_cases c27 : a0_4.toList = ([] : List UInt8)
                            · as_aux_lemma =>
                              rw [if_pos c27] at H
                              have c27b14 : a0_4.toList.isEmpty = true := by rw [c27]; rfl
                              try rw [c27b14]
                              have c27b0 : (a0_4.toList == ([] : List UInt8)) = true := beq_iff_eq.mpr c27
                              have c27b1 : (a0_4.toList != ([] : List UInt8)) = false := bne_eq_false_iff_eq.mpr c27
                              clear c27
                              by_cases c28 : a0_5.toList = ([] : List UInt8)
                              · as_aux_lemma =>
                                rw [if_pos c28] at H
                                have c28b14 : a0_5.toList.isEmpty = true := by rw [c28]; rfl
                                try rw [c28b14]
                                have c28b0 : (a0_5.toList == ([] : List UInt8)) = true := beq_iff_eq.mpr c28
                                have c28b1 : (a0_5.toList != ([] : List UInt8)) = false := bne_eq_false_iff_eq.mpr c28
                                clear c28
                                have H' := Aside0.mk H
                                clear H
                                have hcz29_0 : wc.cell? ⟨gb109, 0, none⟩ = some (.int .i64 a0_0) := (blk_cell BK109.out 0).trans rfl
                                have hcz29_1 : wc.cell? ⟨gb109, 1, none⟩ = some (.int .i64 a0_1) := (blk_cell BK109.out 1).trans rfl
                                have hcz29_2 : wc.cell? ⟨gb109, 2, none⟩ = some (.bool true) := (blk_cell BK109.out 2).trans rfl
                                have hcz29_3 : wc.cell? ⟨gb109, 3, none⟩ = some (.string a0_3) := (blk_cell BK109.out 3).trans rfl
                                have hcz29_4 : wc.cell? ⟨gb109, 4, none⟩ = some (.string a0_4) := (blk_cell BK109.out 4).trans rfl
                                have hcz29_5 : wc.cell? ⟨gb109, 5, none⟩ = some (.string a0_5) := (blk_cell BK109.out 5).trans rfl
                                have hcz29_6 : wc.cell? ⟨gb109, 6, none⟩ = some (.int .i64 a0_6) := (blk_cell BK109.out 6).trans rfl
                                have hcz29_7 : wc.cell? ⟨gb109, 7, none⟩ = some (.int .i64 a0_7) := (blk_cell BK109.out 7).trans rfl
                                have hfz29_0 := blk_frozen BK109.out 0
                                have hfz29_1 := blk_frozen BK109.out 1
                                have hfz29_2 := blk_frozen BK109.out 2
                                have hfz29_3 := blk_frozen BK109.out 3
                                have hfz29_4 := blk_frozen BK109.out 4
                                have hfz29_5 := blk_frozen BK109.out 5
                                have hfz29_6 := blk_frozen BK109.out 6
                                have hfz29_7 := blk_frozen BK109.out 7
                                go_wp2
                                go_meet
                                case rel => exact ⟨_, (false), (by first | rfl | (simp; done) | (simp [*]; done)), H', ⟨by have := HJ1.out; have := HJ8.out; have := HJ10.out; have := HJ13.out; first | omega | exact Nat.le_refl _⟩, ⟨by (with_reducible repeat (first | refine blk_drewN ?_ _ | refine blk_drew ?_ | refine blk_alloc ?_ _)); exact BK109.out⟩, ⟨by repeat (first | (with_reducible first | exact HB.out | apply below_alloc | apply pw_below_drewN | apply below_drew1 | refine below_set ?_ GE109.out) | exact HB.out)⟩⟩
                              · as_aux_lemma =>
                                rw [if_neg c28] at H
                                have c28b14 : a0_5.toList.isEmpty = false := by simpa using c28
                                try rw [c28b14]
                                have c28b0 : (a0_5.toList == ([] : List UInt8)) = false := beq_eq_false_iff_ne.mpr c28
                                have c28b1 : (a0_5.toList != ([] : List UInt8)) = true := bne_iff_ne.mpr c28
                                have H' := Aside0.mk H
                                clear H
                                have hcz30_0 : wc.cell? ⟨gb109, 0, none⟩ = some (.int .i64 a0_0) := (blk_cell BK109.out 0).trans rfl
                                have hcz30_1 : wc.cell? ⟨gb109, 1, none⟩ = some (.int .i64 a0_1) := (blk_cell BK109.out 1).trans rfl
                                have hcz30_2 : wc.cell? ⟨gb109, 2, none⟩ = some (.bool true) := (blk_cell BK109.out 2).trans rfl
                                have hcz30_3 : wc.cell? ⟨gb109, 3, none⟩ = some (.string a0_3) := (blk_cell BK109.out 3).trans rfl
                                have hcz30_4 : wc.cell? ⟨gb109, 4, none⟩ = some (.string a0_4) := (blk_cell BK109.out 4).trans rfl
                                have hcz30_5 : wc.cell? ⟨gb109, 5, none⟩ = some (.string a0_5) := (blk_cell BK109.out 5).trans rfl
                                have hcz30_6 : wc.cell? ⟨gb109, 6, none⟩ = some (.int .i64 a0_6) := (blk_cell BK109.out 6).trans rfl
                                have hcz30_7 : wc.cell? ⟨gb109, 7, none⟩ = some (.int .i64 a0_7) := (blk_cell BK109.out 7).trans rfl
                                have hfz30_0 := blk_frozen BK109.out 0
                                have hfz30_1 := blk_frozen BK109.out 1
                                have hfz30_2 := blk_frozen BK109.out 2
                                have hfz30_3 := blk_frozen BK109.out 3
                                have hfz30_4 := blk_frozen BK109.out 4
                                have hfz30_5 := blk_frozen BK109.out 5
                                have hfz30_6 := blk_frozen BK109.out 6
                                have hfz30_7 := blk_frozen BK109.out 7
                                go_wp2
                                go_meet
                                case rel => exact ⟨_, (!x3_1), (by first | rfl | (simp; done) | (simp [*]; done)), H', ⟨by have := HJ1.out; have := HJ8.out; have := HJ10.out; have := HJ13.out; first | omega | exact Nat.le_refl _⟩, ⟨by (with_reducible repeat (first | refine blk_drewN ?_ _ | refine blk_drew ?_ | refine blk_alloc ?_ _)); exact BK109.out⟩, ⟨by repeat (first | (with_reducible first | exact HB.out | apply below_alloc | apply pw_below_drewN | apply below_drew1 | refine below_set ?_ GE109.out) | exact HB.out)⟩⟩
                            · as_aux_lemma =>
                              rw [if_neg c27] at H
                              have c27b14 : a0_4.toList.isEmpty = false := by simpa using c27
                              try rw [c27b14]
                              have c27b0 : (a0_4.toList == ([] : List UInt8)) = false := beq_eq_false_iff_ne.mpr c27
                              have c27b1 : (a0_4.toList != ([] : List UInt8)) = true := bne_iff_ne.mpr c27
                              have H' := Aside0.mk H
                              clear H
                              have hcz31_0 : wc.cell? ⟨gb109, 0, none⟩ = some (.int .i64 a0_0) := (blk_cell BK109.out 0).trans rfl
                              have hcz31_1 : wc.cell? ⟨gb109, 1, none⟩ = some (.int .i64 a0_1) := (blk_cell BK109.out 1).trans rfl
                              have hcz31_2 : wc.cell? ⟨gb109, 2, none⟩ = some (.bool true) := (blk_cell BK109.out 2).trans rfl
                              have hcz31_3 : wc.cell? ⟨gb109, 3, none⟩ = some (.string a0_3) := (blk_cell BK109.out 3).trans rfl
                              have hcz31_4 : wc.cell? ⟨gb109, 4, none⟩ = some (.string a0_4) := (blk_cell BK109.out 4).trans rfl
                              have hcz31_5 : wc.cell? ⟨gb109, 5, none⟩ = some (.string a0_5) := (blk_cell BK109.out 5).trans rfl
                              have hcz31_6 : wc.cell? ⟨gb109, 6, none⟩ = some (.int .i64 a0_6) := (blk_cell BK109.out 6).trans rfl
                              have hcz31_7 : wc.cell? ⟨gb109, 7, none⟩ = some (.int .i64 a0_7) := (blk_cell BK109.out 7).trans rfl
                              have hfz31_0 := blk_frozen BK109.out 0
                              have hfz31_1 := blk_frozen BK109.out 1
                              have hfz31_2 := blk_frozen BK109.out 2
                              have hfz31_3 := blk_frozen BK109.out 3
                              have hfz31_4 := blk_frozen BK109.out 4
                              have hfz31_5 := blk_frozen BK109.out 5
                              have hfz31_6 := blk_frozen BK109.out 6
                              have hfz31_7 := blk_frozen BK109.out 7
                              go_wp2
                              go_meet
                              case rel => exact ⟨_, (!x3_1), (by first | rfl | (simp; done) | (simp [*]; done)), H', ⟨by have := HJ1.out; have := HJ8.out; have := HJ10.out; have := HJ13.out; first | omega | exact Nat.le_refl _⟩, ⟨by (with_reducible repeat (first | refine blk_drewN ?_ _ | refine blk_drew ?_ | refine blk_alloc ?_ _)); exact BK109.out⟩, ⟨by repeat (first | (with_reducible first | exact HB.out | apply below_alloc | apply pw_below_drewN | apply below_drew1 | refine below_set ?_ GE109.out) | exact HB.out)⟩⟩
                          · as_aux_lemma =>
                            rw [if_neg c26] at H
                            have c26b14 : a0_3.toList.isEmpty = false := by simpa using c26
                            try rw [c26b14]
                            have c26b0 : (a0_3.toList == ([] : List UInt8)) = false := beq_eq_false_iff_ne.mpr c26
                            have c26b1 : (a0_3.toList != ([] : List UInt8)) = true := bne_iff_ne.mpr c26
                            by_cases c32 : a0_0 = 5
                            · as_aux_lemma =>
                              rw [if_pos c32] at H
                              have c32b0 : (a0_0 == 5) = true := beq_iff_eq.mpr c32
                              have c32b1 : (a0_0 != 5) = false := bne_eq_false_iff_eq.mpr c32
                              clear c32
                              by_cases c33 : a0_4.toList = ([] : List UInt8)
                              · as_aux_lemma =>
                                rw [if_pos c33] at H
                                have c33b14 : a0_4.toList.isEmpty = true := by rw [c33]; rfl
                                try rw [c33b14]
                                have c33b0 : (a0_4.toList == ([] : List UInt8)) = true := beq_iff_eq.mpr c33
                                have c33b1 : (a0_4.toList != ([] : List UInt8)) = false := bne_eq_false_iff_eq.mpr c33
                                clear c33
                                by_cases c34 : a0_5.toList = ([] : List UInt8)
                                · as_aux_lemma =>
                                  rw [if_pos c34] at H
                                  have c34b14 : a0_5.toList.isEmpty = true := by rw [c34]; rfl
                                  try rw [c34b14]
                                  have c34b0 : (a0_5.toList == ([] : List UInt8)) = true := beq_iff_eq.mpr c34
                                  have c34b1 : (a0_5.toList != ([] : List UInt8)) = false := bne_eq_false_iff_eq.mpr c34
                                  clear c34
                                  have H' := Aside0.mk H
                                  clear H
                                  have hcz35_0 : wc.cell? ⟨gb109, 0, none⟩ = some (.int .i64 a0_0) := (blk_cell BK109.out 0).trans rfl
                                  have hcz35_1 : wc.cell? ⟨gb109, 1, none⟩ = some (.int .i64 a0_1) := (blk_cell BK109.out 1).trans rfl
                                  have hcz35_2 : wc.cell? ⟨gb109, 2, none⟩ = some (.bool true) := (blk_cell BK109.out 2).trans rfl
                                  have hcz35_3 : wc.cell? ⟨gb109, 3, none⟩ = some (.string a0_3) := (blk_cell BK109.out 3).trans rfl
                                  have hcz35_4 : wc.cell? ⟨gb109, 4, none⟩ = some (.string a0_4) := (blk_cell BK109.out 4).trans rfl
                                  have hcz35_5 : wc.cell? ⟨gb109, 5, none⟩ = some (.string a0_5) := (blk_cell BK109.out 5).trans rfl
                                  have hcz35_6 : wc.cell? ⟨gb109, 6, none⟩ = some (.int .i64 a0_6) := (blk_cell BK109.out 6).trans rfl
                                  have hcz35_7 : wc.cell? ⟨gb109, 7, none⟩ = some (.int .i64 a0_7) := (blk_cell BK109.out 7).trans rfl
                                  have hfz35_0 := blk_frozen BK109.out 0
                                  have hfz35_1 := blk_frozen BK109.out 1
                                  have hfz35_2 := blk_frozen BK109.out 2
                                  have hfz35_3 := blk_frozen BK109.out 3
                                  have hfz35_4 := blk_frozen BK109.out 4
                                  have hfz35_5 := blk_frozen BK109.out 5
                                  have hfz35_6 := blk_frozen BK109.out 6
                                  have hfz35_7 := blk_frozen BK109.out 7
                                  go_wp2
                                  go_meet
                                  case rel => exact ⟨_, (false), (by first | rfl | (simp; done) | (simp [*]; done)), H', ⟨by have := HJ1.out; have := HJ8.out; have := HJ10.out; have := HJ13.out; first | omega | exact Nat.le_refl _⟩, ⟨by (with_reducible repeat (first | refine blk_drewN ?_ _ | refine blk_drew ?_ | refine blk_alloc ?_ _)); exact BK109.out⟩, ⟨by repeat (first | (with_reducible first | exact HB.out | apply below_alloc | apply pw_below_drewN | apply below_drew1 | refine below_set ?_ GE109.out) | exact HB.out)⟩⟩
                                · as_aux_lemma =>
                                  rw [if_neg c34] at H
                                  have c34b14 : a0_5.toList.isEmpty = false := by simpa using c34
                                  try rw [c34b14]
                                  have c34b0 : (a0_5.toList == ([] : List UInt8)) = false := beq_eq_false_iff_ne.mpr c34
                                  have c34b1 : (a0_5.toList != ([] : List UInt8)) = true := bne_iff_ne.mpr c34
                                  have H' := Aside0.mk H
                                  clear H
                                  have hcz36_0 : wc.cell? ⟨gb109, 0, none⟩ = some (.int .i64 a0_0) := (blk_cell BK109.out 0).trans rfl
                                  have hcz36_1 : wc.cell? ⟨gb109, 1, none⟩ = some (.int .i64 a0_1) := (blk_cell BK109.out 1).trans rfl
                                  have hcz36_2 : wc.cell? ⟨gb109, 2, none⟩ = some (.bool true) := (blk_cell BK109.out 2).trans rfl
                                  have hcz36_3 : wc.cell? ⟨gb109, 3, none⟩ = some (.string a0_3) := (blk_cell BK109.out 3).trans rfl
                                  have hcz36_4 : wc.cell? ⟨gb109, 4, none⟩ = some (.string a0_4) := (blk_cell BK109.out 4).trans rfl
                                  have hcz36_5 : wc.cell? ⟨gb109, 5, none⟩ = some (.string a0_5) := (blk_cell BK109.out 5).trans rfl
                                  have hcz36_6 : wc.cell? ⟨gb109, 6, none⟩ = some (.int .i64 a0_6) := (blk_cell BK109.out 6).trans rfl
                                  have hcz36_7 : wc.cell? ⟨gb109, 7, none⟩ = some (.int .i64 a0_7) := (blk_cell BK109.out 7).trans rfl
                                  have hfz36_0 := blk_frozen BK109.out 0
                                  have hfz36_1 := blk_frozen BK109.out 1
                                  have hfz36_2 := blk_frozen BK109.out 2
                                  have hfz36_3 := blk_frozen BK109.out 3
                                  have hfz36_4 := blk_frozen BK109.out 4
                                  have hfz36_5 := blk_frozen BK109.out 5
                                  have hfz36_6 := blk_frozen BK109.out 6
                                  have hfz36_7 := blk_frozen BK109.out 7
                                  go_wp2
                                  go_meet
                                  case rel => exact ⟨_, (!x3_1), (by first | rfl | (simp; done) | (simp [*]; done)), H', ⟨by have := HJ1.out; have := HJ8.out; have := HJ10.out; have := HJ13.out; first | omega | exact Nat.le_refl _⟩, ⟨by (with_reducible repeat (first | refine blk_drewN ?_ _ | refine blk_drew ?_ | refine blk_alloc ?_ _)); exact BK109.out⟩, ⟨by repeat (first | (with_reducible first | exact HB.out | apply below_alloc | apply pw_below_drewN | apply below_drew1 | refine below_set ?_ GE109.out) | exact HB.out)⟩⟩
                              · as_aux_lemma =>
                                rw [if_neg c33] at H
                                have c33b14 : a0_4.toList.isEmpty = false := by simpa using c33
                                try rw [c33b14]
                                have c33b0 : (a0_4.toList == ([] : List UInt8)) = false := beq_eq_false_iff_ne.mpr c33
                                have c33b1 : (a0_4.toList != ([] : List UInt8)) = true := bne_iff_ne.mpr c33
                                have H' := Aside0.mk H
                                clear H
                                have hcz37_0 : wc.cell? ⟨gb109, 0, none⟩ = some (.int .i64 a0_0) := (blk_cell BK109.out 0).trans rfl
                                have hcz37_1 : wc.cell? ⟨gb109, 1, none⟩ = some (.int .i64 a0_1) := (blk_cell BK109.out 1).trans rfl
                                have hcz37_2 : wc.cell? ⟨gb109, 2, none⟩ = some (.bool true) := (blk_cell BK109.out 2).trans rfl
                                have hcz37_3 : wc.cell? ⟨gb109, 3, none⟩ = some (.string a0_3) := (blk_cell BK109.out 3).trans rfl
                                have hcz37_4 : wc.cell? ⟨gb109, 4, none⟩ = some (.string a0_4) := (blk_cell BK109.out 4).trans rfl
                                have hcz37_5 : wc.cell? ⟨gb109, 5, none⟩ = some (.string a0_5) := (blk_cell BK109.out 5).trans rfl
                                have hcz37_6 : wc.cell? ⟨gb109, 6, none⟩ = some (.int .i64 a0_6) := (blk_cell BK109.out 6).trans rfl
                                have hcz37_7 : wc.cell? ⟨gb109, 7, none⟩ = some (.int .i64 a0_7) := (blk_cell BK109.out 7).trans rfl
                                have hfz37_0 := blk_frozen BK109.out 0
                                have hfz37_1 := blk_frozen BK109.out 1
                                have hfz37_2 := blk_frozen BK109.out 2
                                have hfz37_3 := blk_frozen BK109.out 3
                                have hfz37_4 := blk_frozen BK109.out 4
                                have hfz37_5 := blk_frozen BK109.out 5
                                have hfz37_6 := blk_frozen BK109.out 6
                                have hfz37_7 := blk_frozen BK109.out 7
                                go_wp2
                                go_meet
                                case rel => exact ⟨_, (!x3_1), (by first | rfl | (simp; done) | (simp [*]; done)), H', ⟨by have := HJ1.out; have := HJ8.out; have := HJ10.out; have := HJ13.out; first | omega | exact Nat.le_refl _⟩, ⟨by (with_reducible repeat (first | refine blk_drewN ?_ _ | refine blk_drew ?_ | refine blk_alloc ?_ _)); exact BK109.out⟩, ⟨by repeat (first | (with_reducible first | exact HB.out | apply below_alloc | apply pw_below_drewN | apply below_drew1 | refine below_set ?_ GE109.out) | exact HB.out)⟩⟩
                            · as_aux_lemma =>
                              rw [if_neg c32] at H
                              have c32b0 : (a0_0 == 5) = false := beq_eq_false_iff_ne.mpr c32
                              have c32b1 : (a0_0 != 5) = true := bne_iff_ne.mpr c32
                              by_cases c38 : a0_0 = 6
                              · as_aux_lemma =>
                                rw [if_pos c38] at H
                                have c38b0 : (a0_0 == 6) = true := beq_iff_eq.mpr c38
                                have c38b1 : (a0_0 != 6) = false := bne_eq_false_iff_eq.mpr c38
                                clear c38
                                by_cases c39 : a0_4.toList = ([] : List UInt8)
                                · as_aux_lemma =>
                                  rw [if_pos c39] at H
                                  have c39b14 : a0_4.toList.isEmpty = true := by rw [c39]; rfl
                                  try rw [c39b14]
                                  have c39b0 : (a0_4.toList == ([] : List UInt8)) = true := beq_iff_eq.mpr c39
                                  have c39b1 : (a0_4.toList != ([] : List UInt8)) = false := bne_eq_false_iff_eq.mpr c39
                                  clear c39
                                  by_cases c40 : a0_5.toList = ([] : List UInt8)
                                  · as_aux_lemma =>
                                    rw [if_pos c40] at H
                                    have c40b14 : a0_5.toList.isEmpty = true := by rw [c40]; rfl
                                    try rw [c40b14]
                                    have c40b0 : (a0_5.toList == ([] : List UInt8)) = true := beq_iff_eq.mpr c40
                                    have c40b1 : (a0_5.toList != ([] : List UInt8)) = false := bne_eq_false_iff_eq.mpr c40
                                    clear c40
                                    have H' := Aside0.mk H
                                    clear H
                                    have hcz41_0 : wc.cell? ⟨gb109, 0, none⟩ = some (.int .i64 a0_0) := (blk_cell BK109.out 0).trans rfl
                                    have hcz41_1 : wc.cell? ⟨gb109, 1, none⟩ = some (.int .i64 a0_1) := (blk_cell BK109.out 1).trans rfl
                                    have hcz41_2 : wc.cell? ⟨gb109, 2, none⟩ = some (.bool true) := (blk_cell BK109.out 2).trans rfl
                                    have hcz41_3 : wc.cell? ⟨gb109, 3, none⟩ = some (.string a0_3) := (blk_cell BK109.out 3).trans rfl
                                    have hcz41_4 : wc.cell? ⟨gb109, 4, none⟩ = some (.string a0_4) := (blk_cell BK109.out 4).trans rfl
                                    have hcz41_5 : wc.cell? ⟨gb109, 5, none⟩ = some (.string a0_5) := (blk_cell BK109.out 5).trans rfl
                                    have hcz41_6 : wc.cell? ⟨gb109, 6, none⟩ = some (.int .i64 a0_6) := (blk_cell BK109.out 6).trans rfl
                                    have hcz41_7 : wc.cell? ⟨gb109, 7, none⟩ = some (.int .i64 a0_7) := (blk_cell BK109.out 7).trans rfl
                                    have hfz41_0 := blk_frozen BK109.out 0
                                    have hfz41_1 := blk_frozen BK109.out 1
                                    have hfz41_2 := blk_frozen BK109.out 2
                                    have hfz41_3 := blk_frozen BK109.out 3
                                    have hfz41_4 := blk_frozen BK109.out 4
                                    have hfz41_5 := blk_frozen BK109.out 5
                                    have hfz41_6 := blk_frozen BK109.out 6
                                    have hfz41_7 := blk_frozen BK109.out 7
                                    go_wp2
                                    go_meet
                                    case rel => exact ⟨_, (false), (by first | rfl | (simp; done) | (simp [*]; done)), H', ⟨by have := HJ1.out; have := HJ8.out; have := HJ10.out; have := HJ13.out; first | omega | exact Nat.le_refl _⟩, ⟨by (with_reducible repeat (first | refine blk_drewN ?_ _ | refine blk_drew ?_ | refine blk_alloc ?_ _)); exact BK109.out⟩, ⟨by repeat (first | (with_reducible first | exact HB.out | apply below_alloc | apply pw_below_drewN | apply below_drew1 | refine below_set ?_ GE109.out) | exact HB.out)⟩⟩
                                  · as_aux_lemma =>
                                    rw [if_neg c40] at H
                                    have c40b14 : a0_5.toList.isEmpty = false := by simpa using c40
                                    try rw [c40b14]
                                    have c40b0 : (a0_5.toList == ([] : List UInt8)) = false := beq_eq_false_iff_ne.mpr c40
                                    have c40b1 : (a0_5.toList != ([] : List UInt8)) = true := bne_iff_ne.mpr c40
                                    have H' := Aside0.mk H
                                    clear H
                                    have hcz42_0 : wc.cell? ⟨gb109, 0, none⟩ = some (.int .i64 a0_0) := (blk_cell BK109.out 0).trans rfl
                                    have hcz42_1 : wc.cell? ⟨gb109, 1, none⟩ = some (.int .i64 a0_1) := (blk_cell BK109.out 1).trans rfl
                                    have hcz42_2 : wc.cell? ⟨gb109, 2, none⟩ = some (.bool true) := (blk_cell BK109.out 2).trans rfl
                                    have hcz42_3 : wc.cell? ⟨gb109, 3, none⟩ = some (.string a0_3) := (blk_cell BK109.out 3).trans rfl
                                    have hcz42_4 : wc.cell? ⟨gb109, 4, none⟩ = some (.string a0_4) := (blk_cell BK109.out 4).trans rfl
                                    have hcz42_5 : wc.cell? ⟨gb109, 5, none⟩ = some (.string a0_5) := (blk_cell BK109.out 5).trans rfl
                                    have hcz42_6 : wc.cell? ⟨gb109, 6, none⟩ = some (.int .i64 a0_6) := (blk_cell BK109.out 6).trans rfl
                                    have hcz42_7 : wc.cell? ⟨gb109, 7, none⟩ = some (.int .i64 a0_7) := (blk_cell BK109.out 7).trans rfl
                                    have hfz42_0 := blk_frozen BK109.out 0
                                    have hfz42_1 := blk_frozen BK109.out 1
                                    have hfz42_2 := blk_frozen BK109.out 2
                                    have hfz42_3 := blk_frozen BK109.out 3
                                    have hfz42_4 := blk_frozen BK109.out 4
                                    have hfz42_5 := blk_frozen BK109.out 5
                                    have hfz42_6 := blk_frozen BK109.out 6
                                    have hfz42_7 := blk_frozen BK109.out 7
                                    go_wp2
                                    go_meet
                                    case rel => exact ⟨_, (!x3_1), (by first | rfl | (simp; done) | (simp [*]; done)), H', ⟨by have := HJ1.out; have := HJ8.out; have := HJ10.out; have := HJ13.out; first | omega | exact Nat.le_refl _⟩, ⟨by (with_reducible repeat (first | refine blk_drewN ?_ _ | refine blk_drew ?_ | refine blk_alloc ?_ _)); exact BK109.out⟩, ⟨by repeat (first | (with_reducible first | exact HB.out | apply below_alloc | apply pw_below_drewN | apply below_drew1 | refine below_set ?_ GE109.out) | exact HB.out)⟩⟩
                                · as_aux_lemma =>
                                  rw [if_neg c39] at H
                                  have c39b14 : a0_4.toList.isEmpty = false := by simpa using c39
                                  try rw [c39b14]
                                  have c39b0 : (a0_4.toList == ([] : List UInt8)) = false := beq_eq_false_iff_ne.mpr c39
                                  have c39b1 : (a0_4.toList != ([] : List UInt8)) = true := bne_iff_ne.mpr c39
                                  have H' := Aside0.mk H
                                  clear H
                                  have hcz43_0 : wc.cell? ⟨gb109, 0, none⟩ = some (.int .i64 a0_0) := (blk_cell BK109.out 0).trans rfl
                                  have hcz43_1 : wc.cell? ⟨gb109, 1, none⟩ = some (.int .i64 a0_1) := (blk_cell BK109.out 1).trans rfl
                                  have hcz43_2 : wc.cell? ⟨gb109, 2, none⟩ = some (.bool true) := (blk_cell BK109.out 2).trans rfl
                                  have hcz43_3 : wc.cell? ⟨gb109, 3, none⟩ = some (.string a0_3) := (blk_cell BK109.out 3).trans rfl
                                  have hcz43_4 : wc.cell? ⟨gb109, 4, none⟩ = some (.string a0_4) := (blk_cell BK109.out 4).trans rfl
                                  have hcz43_5 : wc.cell? ⟨gb109, 5, none⟩ = some (.string a0_5) := (blk_cell BK109.out 5).trans rfl
                                  have hcz43_6 : wc.cell? ⟨gb109, 6, none⟩ = some (.int .i64 a0_6) := (blk_cell BK109.out 6).trans rfl
                                  have hcz43_7 : wc.cell? ⟨gb109, 7, none⟩ = some (.int .i64 a0_7) := (blk_cell BK109.out 7).trans rfl
                                  have hfz43_0 := blk_frozen BK109.out 0
                                  have hfz43_1 := blk_frozen BK109.out 1
                                  have hfz43_2 := blk_frozen BK109.out 2
                                  have hfz43_3 := blk_frozen BK109.out 3
                                  have hfz43_4 := blk_frozen BK109.out 4
                                  have hfz43_5 := blk_frozen BK109.out 5
                                  have hfz43_6 := blk_frozen BK109.out 6
                                  have hfz43_7 := blk_frozen BK109.out 7
                                  go_wp2
                                  go_meet
                                  case rel => exact ⟨_, (!x3_1), (by first | rfl | (simp; done) | (simp [*]; done)), H', ⟨by have := HJ1.out; have := HJ8.out; have := HJ10.out; have := HJ13.out; first | omega | exact Nat.le_refl _⟩, ⟨by (with_reducible repeat (first | refine blk_drewN ?_ _ | refine blk_drew ?_ | refine blk_alloc ?_ _)); exact BK109.out⟩, ⟨by repeat (first | (with_reducible first | exact HB.out | apply below_alloc | apply pw_below_drewN | apply below_drew1 | refine below_set ?_ GE109.out) | exact HB.out)⟩⟩
                              · as_aux_lemma =>
                                rw [if_neg c38] at H
                                have c38b0 : (a0_0 == 6) = false := beq_eq_false_iff_ne.mpr c38
                                have c38b1 : (a0_0 != 6) = true := bne_iff_ne.mpr c38
                                have H' := Aside0.mk H
                                clear H
                                have hcz44_0 : wc.cell? ⟨gb109, 0, none⟩ = some (.int .i64 a0_0) := (blk_cell BK109.out 0).trans rfl
                                have hcz44_1 : wc.cell? ⟨gb109, 1, none⟩ = some (.int .i64 a0_1) := (blk_cell BK109.out 1).trans rfl
                                have hcz44_2 : wc.cell? ⟨gb109, 2, none⟩ = some (.bool true) := (blk_cell BK109.out 2).trans rfl
                                have hcz44_3 : wc.cell? ⟨gb109, 3, none⟩ = some (.string a0_3) := (blk_cell BK109.out 3).trans rfl
                                have hcz44_4 : wc.cell? ⟨gb109, 4, none⟩ = some (.string a0_4) := (blk_cell BK109.out 4).trans rfl
                                have hcz44_5 : wc.cell? ⟨gb109, 5, none⟩ = some (.string a0_5) := (blk_cell BK109.out 5).trans rfl
                                have hcz44_6 : wc.cell? ⟨gb109, 6, none⟩ = some (.int .i64 a0_6) := (blk_cell BK109.out 6).trans rfl
                                have hcz44_7 : wc.cell? ⟨gb109, 7, none⟩ = some (.int .i64 a0_7) := (blk_cell BK109.out 7).trans rfl
                                have hfz44_0 := blk_frozen BK109.out 0
                                have hfz44_1 := blk_frozen BK109.out 1
                                have hfz44_2 := blk_frozen BK109.out 2
                                have hfz44_3 := blk_frozen BK109.out 3
                                have hfz44_4 := blk_frozen BK109.out 4
                                have hfz44_5 := blk_frozen BK109.out 5
                                have hfz44_6 := blk_frozen BK109.out 6
                                have hfz44_7 := blk_frozen BK109.out 7
                                go_wp2
                                go_meet
                                case rel => exact ⟨_, (true), (by first | rfl | (simp; done) | (simp [*]; done)), H', ⟨by have := HJ1.out; have := HJ8.out; have := HJ10.out; have := HJ13.out; first | omega | exact Nat.le_refl _⟩, ⟨by (with_reducible repeat (first | refine blk_drewN ?_ _ | refine blk_drew ?_ | refine blk_alloc ?_ _)); exact BK109.out⟩, ⟨by repeat (first | (with_reducible first | exact HB.out | apply below_alloc | apply pw_below_drewN | apply below_drew1 | refine below_set ?_ GE109.out) | exact HB.out)⟩⟩
                        · as_aux_lemma =>
                          rw [if_neg c25] at H
                          have c25b0 : (a0_0 == 2) = false := beq_eq_false_iff_ne.mpr c25
                          have c25b1 : (a0_0 != 2) = true := bne_iff_ne.mpr c25
                          (first | rw [c25b0] | (simp only [i64_w, i32_w]; rw [c25b0]) | skip)
                          by_cases c45 : a0_0 = 8
                          · as_aux_lemma =>
                            rw [if_pos c45] at H
                            have c45b0 : (a0_0 == 8) = true := beq_iff_eq.mpr c45
                            have c45b1 : (a0_0 != 8) = false := bne_eq_false_iff_eq.mpr c45
                            clear c45
                            by_cases c46 : a0_3.toList = ([] : List UInt8)
                            · as_aux_lemma =>
                              rw [if_pos c46] at H
                              have c46b14 : a0_3.toList.isEmpty = true := by rw [c46]; rfl
                              try rw [c46b14]
                              have c46b0 : (a0_3.toList == ([] : List UInt8)) = true := beq_iff_eq.mpr c46
                              have c46b1 : (a0_3.toList != ([] : List UInt8)) = false := bne_eq_false_iff_eq.mpr c46
                              clear c46
                              by_cases c47 : a0_4.toList = ([] : List UInt8)
                              · as_aux_lemma =>
                                rw [if_pos c47] at H
                                have c47b14 : a0_4.toList.isEmpty = true := by rw [c47]; rfl
                                try rw [c47b14]
                                have c47b0 : (a0_4.toList == ([] : List UInt8)) = true := beq_iff_eq.mpr c47
                                have c47b1 : (a0_4.toList != ([] : List UInt8)) = false := bne_eq_false_iff_eq.mpr c47
                                clear c47
                                by_cases c48 : a0_5.toList = ([] : List UInt8)
                                · as_aux_lemma =>
                                  rw [if_pos c48] at H
                                  have c48b14 : a0_5.toList.isEmpty = true := by rw [c48]; rfl
                                  try rw [c48b14]
                                  have c48b0 : (a0_5.toList == ([] : List UInt8)) = true := beq_iff_eq.mpr c48
                                  have c48b1 : (a0_5.toList != ([] : List UInt8)) = false := bne_eq_false_iff_eq.mpr c48
                                  clear c48
                                  have H' := Aside0.mk H
                                  clear H
                                  have hcz49_0 : wc.cell? ⟨gb109, 0, none⟩ = some (.int .i64 a0_0) := (blk_cell BK109.out 0).trans rfl
                                  have hcz49_1 : wc.cell? ⟨gb109, 1, none⟩ = some (.int .i64 a0_1) := (blk_cell BK109.out 1).trans rfl
                                  have hcz49_2 : wc.cell? ⟨gb109, 2, none⟩ = some (.bool true) := (blk_cell BK109.out 2).trans rfl
                                  have hcz49_3 : wc.cell? ⟨gb109, 3, none⟩ = some (.string a0_3) := (blk_cell BK109.out 3).trans rfl
                                  have hcz49_4 : wc.cell? ⟨gb109, 4, none⟩ = some (.string a0_4) := (blk_cell BK109.out 4).trans rfl
                                  have hcz49_5 : wc.cell? ⟨gb109, 5, none⟩ = some (.string a0_5) := (blk_cell BK109.out 5).trans rfl
                                  have hcz49_6 : wc.cell? ⟨gb109, 6, none⟩ = some (.int .i64 a0_6) := (blk_cell BK109.out 6).trans rfl
                                  have hcz49_7 : wc.cell? ⟨gb109, 7, none⟩ = some (.int .i64 a0_7) := (blk_cell BK109.out 7).trans rfl
                                  have hfz49_0 := blk_frozen BK109.out 0
                                  have hfz49_1 := blk_frozen BK109.out 1
                                  have hfz49_2 := blk_frozen BK109.out 2
                                  have hfz49_3 := blk_frozen BK109.out 3
                                  have hfz49_4 := blk_frozen BK109.out 4
                                  have hfz49_5 := blk_frozen BK109.out 5
                                  have hfz49_6 := blk_frozen BK109.out 6
                                  have hfz49_7 := blk_frozen BK109.out 7
                                  go_wp2
                                  go_meet
                                  case rel => exact ⟨_, (false), (by first | rfl | (simp; done) | (simp [*]; done)), H', ⟨by have := HJ1.out; have := HJ8.out; have := HJ10.out; have := HJ13.out; first | omega | exact Nat.le_refl _⟩, ⟨by (with_reducible repeat (first | refine blk_drewN ?_ _ | refine blk_drew ?_ | refine blk_alloc ?_ _)); exact BK109.out⟩, ⟨by repeat (first | (with_reducible first | exact HB.out | apply below_alloc | apply pw_below_drewN | apply below_drew1 | refine below_set ?_ GE109.out) | exact HB.out)⟩⟩
                                · as_aux_lemma =>
                                  rw [if_neg c48] at H
                                  have c48b14 : a0_5.toList.isEmpty = false := by simpa using c48
                                  try rw [c48b14]
                                  have c48b0 : (a0_5.toList == ([] : List UInt8)) = false := beq_eq_false_iff_ne.mpr c48
                                  have c48b1 : (a0_5.toList != ([] : List UInt8)) = true := bne_iff_ne.mpr c48
                                  have H' := Aside0.mk H
                                  clear H
                                  have hcz50_0 : wc.cell? ⟨gb109, 0, none⟩ = some (.int .i64 a0_0) := (blk_cell BK109.out 0).trans rfl
                                  have hcz50_1 : wc.cell? ⟨gb109, 1, none⟩ = some (.int .i64 a0_1) := (blk_cell BK109.out 1).trans rfl
                                  have hcz50_2 : wc.cell? ⟨gb109, 2, none⟩ = some (.bool true) := (blk_cell BK109.out 2).trans rfl
                                  have hcz50_3 : wc.cell? ⟨gb109, 3, none⟩ = some (.string a0_3) := (blk_cell BK109.out 3).trans rfl
                                  have hcz50_4 : wc.cell? ⟨gb109, 4, none⟩ = some (.string a0_4) := (blk_cell BK109.out 4).trans rfl
                                  have hcz50_5 : wc.cell? ⟨gb109, 5, none⟩ = some (.string a0_5) := (blk_cell BK109.out 5).trans rfl
                                  have hcz50_6 : wc.cell? ⟨gb109, 6, none⟩ = some (.int .i64 a0_6) := (blk_cell BK109.out 6).trans rfl
                                  have hcz50_7 : wc.cell? ⟨gb109, 7, none⟩ = some (.int .i64 a0_7) := (blk_cell BK109.out 7).trans rfl
                                  have hfz50_0 := blk_frozen BK109.out 0
                                  have hfz50_1 := blk_frozen BK109.out 1
                                  have hfz50_2 := blk_frozen BK109.out 2
                                  have hfz50_3 := blk_frozen BK109.out 3
                                  have hfz50_4 := blk_frozen BK109.out 4
                                  have hfz50_5 := blk_frozen BK109.out 5
                                  have hfz50_6 := blk_frozen BK109.out 6
                                  have hfz50_7 := blk_frozen BK109.out 7
                                  go_wp2
                                  go_meet
                                  case rel => exact ⟨_, (!x3_1), (by first | rfl | (simp; done) | (simp [*]; done)), H', ⟨by have := HJ1.out; have := HJ8.out; have := HJ10.out; have := HJ13.out; first | omega | exact Nat.le_refl _⟩, ⟨by (with_reducible repeat (first | refine blk_drewN ?_ _ | refine blk_drew ?_ | refine blk_alloc ?_ _)); exact BK109.out⟩, ⟨by repeat (first | (with_reducible first | exact HB.out | apply below_alloc | apply pw_below_drewN | apply below_drew1 | refine below_set ?_ GE109.out) | exact HB.out)⟩⟩
                              · as_aux_lemma =>
                                rw [if_neg c47] at H
                                have c47b14 : a0_4.toList.isEmpty = false := by simpa using c47
                                try rw [c47b14]
                                have c47b0 : (a0_4.toList == ([] : List UInt8)) = false := beq_eq_false_iff_ne.mpr c47
                                have c47b1 : (a0_4.toList != ([] : List UInt8)) = true := bne_iff_ne.mpr c47
                                have H' := Aside0.mk H
                                clear H
                                have hcz51_0 : wc.cell? ⟨gb109, 0, none⟩ = some (.int .i64 a0_0) := (blk_cell BK109.out 0).trans rfl
                                have hcz51_1 : wc.cell? ⟨gb109, 1, none⟩ = some (.int .i64 a0_1) := (blk_cell BK109.out 1).trans rfl
                                have hcz51_2 : wc.cell? ⟨gb109, 2, none⟩ = some (.bool true) := (blk_cell BK109.out 2).trans rfl
                                have hcz51_3 : wc.cell? ⟨gb109, 3, none⟩ = some (.string a0_3) := (blk_cell BK109.out 3).trans rfl
                                have hcz51_4 : wc.cell? ⟨gb109, 4, none⟩ = some (.string a0_4) := (blk_cell BK109.out 4).trans rfl
                                have hcz51_5 : wc.cell? ⟨gb109, 5, none⟩ = some (.string a0_5) := (blk_cell BK109.out 5).trans rfl
                                have hcz51_6 : wc.cell? ⟨gb109, 6, none⟩ = some (.int .i64 a0_6) := (blk_cell BK109.out 6).trans rfl
                                have hcz51_7 : wc.cell? ⟨gb109, 7, none⟩ = some (.int .i64 a0_7) := (blk_cell BK109.out 7).trans rfl
                                have hfz51_0 := blk_frozen BK109.out 0
                                have hfz51_1 := blk_frozen BK109.out 1
                                have hfz51_2 := blk_frozen BK109.out 2
                                have hfz51_3 := blk_frozen BK109.out 3
                                have hfz51_4 := blk_frozen BK109.out 4
                                have hfz51_5 := blk_frozen BK109.out 5
                                have hfz51_6 := blk_frozen BK109.out 6
                                have hfz51_7 := blk_frozen BK109.out 7
                                go_wp2
                                go_meet
                                case rel => exact ⟨_, (!x3_1), (by first | rfl | (simp; done) | (simp [*]; done)), H', ⟨by have := HJ1.out; have := HJ8.out; have := HJ10.out; have := HJ13.out; first | omega | exact Nat.le_refl _⟩, ⟨by (with_reducible repeat (first | refine blk_drewN ?_ _ | refine blk_drew ?_ | refine blk_alloc ?_ _)); exact BK109.out⟩, ⟨by repeat (first | (with_reducible first | exact HB.out | apply below_alloc | apply pw_below_drewN | apply below_drew1 | refine below_set ?_ GE109.out) | exact HB.out)⟩⟩
                            · as_aux_lemma =>
                              rw [if_neg c46] at H
                              have c46b14 : a0_3.toList.isEmpty = false := by simpa using c46
                              try rw [c46b14]
                              have c46b0 : (a0_3.toList == ([] : List UInt8)) = false := beq_eq_false_iff_ne.mpr c46
                              have c46b1 : (a0_3.toList != ([] : List UInt8)) = true := bne_iff_ne.mpr c46
                              by_cases c52 : a0_0 = 5
                              · as_aux_lemma =>
                                rw [if_pos c52] at H
                                have c52b0 : (a0_0 == 5) = true := beq_iff_eq.mpr c52
                                have c52b1 : (a0_0 != 5) = false := bne_eq_false_iff_eq.mpr c52
                                clear c52
                                by_cases c53 : a0_4.toList = ([] : List UInt8)
                                · as_aux_lemma =>
                                  rw [if_pos c53] at H
                                  have c53b14 : a0_4.toList.isEmpty = true := by rw [c53]; rfl
                                  try rw [c53b14]
                                  have c53b0 : (a0_4.toList == ([] : List UInt8)) = true := beq_iff_eq.mpr c53
                                  have c53b1 : (a0_4.toList != ([] : List UInt8)) = false := bne_eq_false_iff_eq.mpr c53
                                  clear c53
                                  by_cases c54 : a0_5.toList = ([] : List UInt8)
                                  · as_aux_lemma =>
                                    rw [if_pos c54] at H
                                    have c54b14 : a0_5.toList.isEmpty = true := by rw [c54]; rfl
                                    try rw [c54b14]
                                    have c54b0 : (a0_5.toList == ([] : List UInt8)) = true := beq_iff_eq.mpr c54
                                    have c54b1 : (a0_5.toList != ([] : List UInt8)) = false := bne_eq_false_iff_eq.mpr c54
                                    clear c54
                                    have H' := Aside0.mk H
                                    clear H
                                    have hcz55_0 : wc.cell? ⟨gb109, 0, none⟩ = some (.int .i64 a0_0) := (blk_cell BK109.out 0).trans rfl
                                    have hcz55_1 : wc.cell? ⟨gb109, 1, none⟩ = some (.int .i64 a0_1) := (blk_cell BK109.out 1).trans rfl
                                    have hcz55_2 : wc.cell? ⟨gb109, 2, none⟩ = some (.bool true) := (blk_cell BK109.out 2).trans rfl
                                    have hcz55_3 : wc.cell? ⟨gb109, 3, none⟩ = some (.string a0_3) := (blk_cell BK109.out 3).trans rfl
                                    have hcz55_4 : wc.cell? ⟨gb109, 4, none⟩ = some (.string a0_4) := (blk_cell BK109.out 4).trans rfl
                                    have hcz55_5 : wc.cell? ⟨gb109, 5, none⟩ = some (.string a0_5) := (blk_cell BK109.out 5).trans rfl
                                    have hcz55_6 : wc.cell? ⟨gb109, 6, none⟩ = some (.int .i64 a0_6) := (blk_cell BK109.out 6).trans rfl
                                    have hcz55_7 : wc.cell? ⟨gb109, 7, none⟩ = some (.int .i64 a0_7) := (blk_cell BK109.out 7).trans rfl
                                    have hfz55_0 := blk_frozen BK109.out 0
                                    have hfz55_1 := blk_frozen BK109.out 1
                                    have hfz55_2 := blk_frozen BK109.out 2
                                    have hfz55_3 := blk_frozen BK109.out 3
                                    have hfz55_4 := blk_frozen BK109.out 4
                                    have hfz55_5 := blk_frozen BK109.out 5
                                    have hfz55_6 := blk_frozen BK109.out 6
                                    have hfz55_7 := blk_frozen BK109.out 7
                                    go_wp2
                                    go_meet
                                    case rel => exact ⟨_, (false), (by first | rfl | (simp; done) | (simp [*]; done)), H', ⟨by have := HJ1.out; have := HJ8.out; have := HJ10.out; have := HJ13.out; first | omega | exact Nat.le_refl _⟩, ⟨by (with_reducible repeat (first | refine blk_drewN ?_ _ | refine blk_drew ?_ | refine blk_alloc ?_ _)); exact BK109.out⟩, ⟨by repeat (first | (with_reducible first | exact HB.out | apply below_alloc | apply pw_below_drewN | apply below_drew1 | refine below_set ?_ GE109.out) | exact HB.out)⟩⟩
                                  · as_aux_lemma =>
                                    rw [if_neg c54] at H
                                    have c54b14 : a0_5.toList.isEmpty = false := by simpa using c54
                                    try rw [c54b14]
                                    have c54b0 : (a0_5.toList == ([] : List UInt8)) = false := beq_eq_false_iff_ne.mpr c54
                                    have c54b1 : (a0_5.toList != ([] : List UInt8)) = true := bne_iff_ne.mpr c54
                                    have H' := Aside0.mk H
                                    clear H
                                    have hcz56_0 : wc.cell? ⟨gb109, 0, none⟩ = some (.int .i64 a0_0) := (blk_cell BK109.out 0).trans rfl
                                    have hcz56_1 : wc.cell? ⟨gb109, 1, none⟩ = some (.int .i64 a0_1) := (blk_cell BK109.out 1).trans rfl
                                    have hcz56_2 : wc.cell? ⟨gb109, 2, none⟩ = some (.bool true) := (blk_cell BK109.out 2).trans rfl
                                    have hcz56_3 : wc.cell? ⟨gb109, 3, none⟩ = some (.string a0_3) := (blk_cell BK109.out 3).trans rfl
                                    have hcz56_4 : wc.cell? ⟨gb109, 4, none⟩ = some (.string a0_4) := (blk_cell BK109.out 4).trans rfl
                                    have hcz56_5 : wc.cell? ⟨gb109, 5, none⟩ = some (.string a0_5) := (blk_cell BK109.out 5).trans rfl
                                    have hcz56_6 : wc.cell? ⟨gb109, 6, none⟩ = some (.int .i64 a0_6) := (blk_cell BK109.out 6).trans rfl
                                    have hcz56_7 : wc.cell? ⟨gb109, 7, none⟩ = some (.int .i64 a0_7) := (blk_cell BK109.out 7).trans rfl
                                    have hfz56_0 := blk_frozen BK109.out 0
                                    have hfz56_1 := blk_frozen BK109.out 1
                                    have hfz56_2 := blk_frozen BK109.out 2
                                    have hfz56_3 := blk_frozen BK109.out 3
                                    have hfz56_4 := blk_frozen BK109.out 4
                                    have hfz56_5 := blk_frozen BK109.out 5
                                    have hfz56_6 := blk_frozen BK109.out 6
                                    have hfz56_7 := blk_frozen BK109.out 7
                                    go_wp2
                                    go_meet
                                    case rel => exact ⟨_, (!x3_1), (by first | rfl | (simp; done) | (simp [*]; done)), H', ⟨by have := HJ1.out; have := HJ8.out; have := HJ10.out; have := HJ13.out; first | omega | exact Nat.le_refl _⟩, ⟨by (with_reducible repeat (first | refine blk_drewN ?_ _ | refine blk_drew ?_ | refine blk_alloc ?_ _)); exact BK109.out⟩, ⟨by repeat (first | (with_reducible first | exact HB.out | apply below_alloc | apply pw_below_drewN | apply below_drew1 | refine below_set ?_ GE109.out) | exact HB.out)⟩⟩
                                · as_aux_lemma =>
                                  rw [if_neg c53] at H
                                  have c53b14 : a0_4.toList.isEmpty = false := by simpa using c53
                                  try rw [c53b14]
                                  have c53b0 : (a0_4.toList == ([] : List UInt8)) = false := beq_eq_false_iff_ne.mpr c53
                                  have c53b1 : (a0_4.toList != ([] : List UInt8)) = true := bne_iff_ne.mpr c53
                                  have H' := Aside0.mk H
                                  clear H
                                  have hcz57_0 : wc.cell? ⟨gb109, 0, none⟩ = some (.int .i64 a0_0) := (blk_cell BK109.out 0).trans rfl
                                  have hcz57_1 : wc.cell? ⟨gb109, 1, none⟩ = some (.int .i64 a0_1) := (blk_cell BK109.out 1).trans rfl
                                  have hcz57_2 : wc.cell? ⟨gb109, 2, none⟩ = some (.bool true) := (blk_cell BK109.out 2).trans rfl
                                  have hcz57_3 : wc.cell? ⟨gb109, 3, none⟩ = some (.string a0_3) := (blk_cell BK109.out 3).trans rfl
                                  have hcz57_4 : wc.cell? ⟨gb109, 4, none⟩ = some (.string a0_4) := (blk_cell BK109.out 4).trans rfl
                                  have hcz57_5 : wc.cell? ⟨gb109, 5, none⟩ = some (.string a0_5) := (blk_cell BK109.out 5).trans rfl
                                  have hcz57_6 : wc.cell? ⟨gb109, 6, none⟩ = some (.int .i64 a0_6) := (blk_cell BK109.out 6).trans rfl
                                  have hcz57_7 : wc.cell? ⟨gb109, 7, none⟩ = some (.int .i64 a0_7) := (blk_cell BK109.out 7).trans rfl
                                  have hfz57_0 := blk_frozen BK109.out 0
                                  have hfz57_1 := blk_frozen BK109.out 1
                                  have hfz57_2 := blk_frozen BK109.out 2
                                  have hfz57_3 := blk_frozen BK109.out 3
                                  have hfz57_4 := blk_frozen BK109.out 4
                                  have hfz57_5 := blk_frozen BK109.out 5
                                  have hfz57_6 := blk_frozen BK109.out 6
                                  have hfz57_7 := blk_frozen BK109.out 7
                                  go_wp2
                                  go_meet
                                  case rel => exact ⟨_, (!x3_1), (by first | rfl | (simp; done) | (simp [*]; done)), H', ⟨by have := HJ1.out; have := HJ8.out; have := HJ10.out; have := HJ13.out; first | omega | exact Nat.le_refl _⟩, ⟨by (with_reducible repeat (first | refine blk_drewN ?_ _ | refine blk_drew ?_ | refine blk_alloc ?_ _)); exact BK109.out⟩, ⟨by repeat (first | (with_reducible first | exact HB.out | apply below_alloc | apply pw_below_drewN | apply below_drew1 | refine below_set ?_ GE109.out) | exact HB.out)⟩⟩
                              · as_aux_lemma =>
                                rw [if_neg c52] at H
                                have c52b0 : (a0_0 == 5) = false := beq_eq_false_iff_ne.mpr c52
                                have c52b1 : (a0_0 != 5) = true := bne_iff_ne.mpr c52
                                by_cases c58 : a0_0 = 6
                                · as_aux_lemma =>
                                  rw [if_pos c58] at H
                                  have c58b0 : (a0_0 == 6) = true := beq_iff_eq.mpr c58
                                  have c58b1 : (a0_0 != 6) = false := bne_eq_false_iff_eq.mpr c58
                                  clear c58
                                  by_cases c59 : a0_4.toList = ([] : List UInt8)
                                  · as_aux_lemma =>
                                    rw [if_pos c59] at H
                                    have c59b14 : a0_4.toList.isEmpty = true := by rw [c59]; rfl
                                    try rw [c59b14]
                                    have c59b0 : (a0_4.toList == ([] : List UInt8)) = true := beq_iff_eq.mpr c59
                                    have c59b1 : (a0_4.toList != ([] : List UInt8)) = false := bne_eq_false_iff_eq.mpr c59
                                    clear c59
                                    by_cases c60 : a0_5.toList = ([] : List UInt8)
                                    · as_aux_lemma =>
                                      rw [if_pos c60] at H
                                      have c60b14 : a0_5.toList.isEmpty = true := by rw [c60]; rfl
                                      try rw [c60b14]
                                      have c60b0 : (a0_5.toList == ([] : List UInt8)) = true := beq_iff_eq.mpr c60
                                      have c60b1 : (a0_5.toList != ([] : List UInt8)) = false := bne_eq_false_iff_eq.mpr c60
                                      clear c60
                                      have H' := Aside0.mk H
                                      clear H
                                      have hcz61_0 : wc.cell? ⟨gb109, 0, none⟩ = some (.int .i64 a0_0) := (blk_cell BK109.out 0).trans rfl
                                      have hcz61_1 : wc.cell? ⟨gb109, 1, none⟩ = some (.int .i64 a0_1) := (blk_cell BK109.out 1).trans rfl
                                      have hcz61_2 : wc.cell? ⟨gb109, 2, none⟩ = some (.bool true) := (blk_cell BK109.out 2).trans rfl
                                      have hcz61_3 : wc.cell? ⟨gb109, 3, none⟩ = some (.string a0_3) := (blk_cell BK109.out 3).trans rfl
                                      have hcz61_4 : wc.cell? ⟨gb109, 4, none⟩ = some (.string a0_4) := (blk_cell BK109.out 4).trans rfl
                                      have hcz61_5 : wc.cell? ⟨gb109, 5, none⟩ = some (.string a0_5) := (blk_cell BK109.out 5).trans rfl
                                      have hcz61_6 : wc.cell? ⟨gb109, 6, none⟩ = some (.int .i64 a0_6) := (blk_cell BK109.out 6).trans rfl
                                      have hcz61_7 : wc.cell? ⟨gb109, 7, none⟩ = some (.int .i64 a0_7) := (blk_cell BK109.out 7).trans rfl
                                      have hfz61_0 := blk_frozen BK109.out 0
                                      have hfz61_1 := blk_frozen BK109.out 1
                                      have hfz61_2 := blk_frozen BK109.out 2
                                      have hfz61_3 := blk_frozen BK109.out 3
                                      have hfz61_4 := blk_frozen BK109.out 4
                                      have hfz61_5 := blk_frozen BK109.out 5
                                      have hfz61_6 := blk_frozen BK109.out 6
                                      have hfz61_7 := blk_frozen BK109.out 7
                                      go_wp2
                                      go_meet
                                      case rel => exact ⟨_, (false), (by first | rfl | (simp; done) | (simp [*]; done)), H', ⟨by have := HJ1.out; have := HJ8.out; have := HJ10.out; have := HJ13.out; first | omega | exact Nat.le_refl _⟩, ⟨by (with_reducible repeat (first | refine blk_drewN ?_ _ | refine blk_drew ?_ | refine blk_alloc ?_ _)); exact BK109.out⟩, ⟨by repeat (first | (with_reducible first | exact HB.out | apply below_alloc | apply pw_below_drewN | apply below_drew1 | refine below_set ?_ GE109.out) | exact HB.out)⟩⟩
                                    · as_aux_lemma =>
                                      rw [if_neg c60] at H
                                      have c60b14 : a0_5.toList.isEmpty = false := by simpa using c60
                                      try rw [c60b14]
                                      have c60b0 : (a0_5.toList == ([] : List UInt8)) = false := beq_eq_false_iff_ne.mpr c60
                                      have c60b1 : (a0_5.toList != ([] : List UInt8)) = true := bne_iff_ne.mpr c60
                                      have H' := Aside0.mk H
                                      clear H
                                      have hcz62_0 : wc.cell? ⟨gb109, 0, none⟩ = some (.int .i64 a0_0) := (blk_cell BK109.out 0).trans rfl
                                      have hcz62_1 : wc.cell? ⟨gb109, 1, none⟩ = some (.int .i64 a0_1) := (blk_cell BK109.out 1).trans rfl
                                      have hcz62_2 : wc.cell? ⟨gb109, 2, none⟩ = some (.bool true) := (blk_cell BK109.out 2).trans rfl
                                      have hcz62_3 : wc.cell? ⟨gb109, 3, none⟩ = some (.string a0_3) := (blk_cell BK109.out 3).trans rfl
                                      have hcz62_4 : wc.cell? ⟨gb109, 4, none⟩ = some (.string a0_4) := (blk_cell BK109.out 4).trans rfl
                                      have hcz62_5 : wc.cell? ⟨gb109, 5, none⟩ = some (.string a0_5) := (blk_cell BK109.out 5).trans rfl
                                      have hcz62_6 : wc.cell? ⟨gb109, 6, none⟩ = some (.int .i64 a0_6) := (blk_cell BK109.out 6).trans rfl
                                      have hcz62_7 : wc.cell? ⟨gb109, 7, none⟩ = some (.int .i64 a0_7) := (blk_cell BK109.out 7).trans rfl
                                      have hfz62_0 := blk_frozen BK109.out 0
                                      have hfz62_1 := blk_frozen BK109.out 1
                                      have hfz62_2 := blk_frozen BK109.out 2
                                      have hfz62_3 := blk_frozen BK109.out 3
                                      have hfz62_4 := blk_frozen BK109.out 4
                                      have hfz62_5 := blk_frozen BK109.out 5
                                      have hfz62_6 := blk_frozen BK109.out 6
                                      have hfz62_7 := blk_frozen BK109.out 7
                                      go_wp2
                                      go_meet
                                      case rel => exact ⟨_, (!x3_1), (by first | rfl | (simp; done) | (simp [*]; done)), H', ⟨by have := HJ1.out; have := HJ8.out; have := HJ10.out; have := HJ13.out; first | omega | exact Nat.le_refl _⟩, ⟨by (with_reducible repeat (first | refine blk_drewN ?_ _ | refine blk_drew ?_ | refine blk_alloc ?_ _)); exact BK109.out⟩, ⟨by repeat (first | (with_reducible first | exact HB.out | apply below_alloc | apply pw_below_drewN | apply below_drew1 | refine below_set ?_ GE109.out) | exact HB.out)⟩⟩
                                  · as_aux_lemma =>
                                    rw [if_neg c59] at H
                                    have c59b14 : a0_4.toList.isEmpty = false := by simpa using c59
                                    try rw [c59b14]
                                    have c59b0 : (a0_4.toList == ([] : List UInt8)) = false := beq_eq_false_iff_ne.mpr c59
                                    have c59b1 : (a0_4.toList != ([] : List UInt8)) = true := bne_iff_ne.mpr c59
                                    have H' := Aside0.mk H
                                    clear H
                                    have hcz63_0 : wc.cell? ⟨gb109, 0, none⟩ = some (.int .i64 a0_0) := (blk_cell BK109.out 0).trans rfl
                                    have hcz63_1 : wc.cell? ⟨gb109, 1, none⟩ = some (.int .i64 a0_1) := (blk_cell BK109.out 1).trans rfl
                                    have hcz63_2 : wc.cell? ⟨gb109, 2, none⟩ = some (.bool true) := (blk_cell BK109.out 2).trans rfl
                                    have hcz63_3 : wc.cell? ⟨gb109, 3, none⟩ = some (.string a0_3) := (blk_cell BK109.out 3).trans rfl
                                    have hcz63_4 : wc.cell? ⟨gb109, 4, none⟩ = some (.string a0_4) := (blk_cell BK109.out 4).trans rfl
                                    have hcz63_5 : wc.cell? ⟨gb109, 5, none⟩ = some (.string a0_5) := (blk_cell BK109.out 5).trans rfl
                                    have hcz63_6 : wc.cell? ⟨gb109, 6, none⟩ = some (.int .i64 a0_6) := (blk_cell BK109.out 6).trans rfl
                                    have hcz63_7 : wc.cell? ⟨gb109, 7, none⟩ = some (.int .i64 a0_7) := (blk_cell BK109.out 7).trans rfl
                                    have hfz63_0 := blk_frozen BK109.out 0
                                    have hfz63_1 := blk_frozen BK109.out 1
                                    have hfz63_2 := blk_frozen BK109.out 2
                                    have hfz63_3 := blk_frozen BK109.out 3
                                    have hfz63_4 := blk_frozen BK109.out 4
                                    have hfz63_5 := blk_frozen BK109.out 5
                                    have hfz63_6 := blk_frozen BK109.out 6
                                    have hfz63_7 := blk_frozen BK109.out 7
                                    go_wp2
                                    go_meet
                                    case rel => exact ⟨_, (!x3_1), (by first | rfl | (simp; done) | (simp [*]; done)), H', ⟨by have := HJ1.out; have := HJ8.out; have := HJ10.out; have := HJ13.out; first | omega | exact Nat.le_refl _⟩, ⟨by (with_reducible repeat (first | refine blk_drewN ?_ _ | refine blk_drew ?_ | refine blk_alloc ?_ _)); exact BK109.out⟩, ⟨by repeat (first | (with_reducible first | exact HB.out | apply below_alloc | apply pw_below_drewN | apply below_drew1 | refine below_set ?_ GE109.out) | exact HB.out)⟩⟩
                                · as_aux_lemma =>
                                  rw [if_neg c58] at H
                                  have c58b0 : (a0_0 == 6) = false := beq_eq_false_iff_ne.mpr c58
                                  have c58b1 : (a0_0 != 6) = true := bne_iff_ne.mpr c58
                                  have H' := Aside0.mk H
                                  clear H
                                  have hcz64_0 : wc.cell? ⟨gb109, 0, none⟩ = some (.int .i64 a0_0) := (blk_cell BK109.out 0).trans rfl
                                  have hcz64_1 : wc.cell? ⟨gb109, 1, none⟩ = some (.int .i64 a0_1) := (blk_cell BK109.out 1).trans rfl
                                  have hcz64_2 : wc.cell? ⟨gb109, 2, none⟩ = some (.bool true) := (blk_cell BK109.out 2).trans rfl
                                  have hcz64_3 : wc.cell? ⟨gb109, 3, none⟩ = some (.string a0_3) := (blk_cell BK109.out 3).trans rfl
                                  have hcz64_4 : wc.cell? ⟨gb109, 4, none⟩ = some (.string a0_4) := (blk_cell BK109.out 4).trans rfl
                                  have hcz64_5 : wc.cell? ⟨gb109, 5, none⟩ = some (.string a0_5) := (blk_cell BK109.out 5).trans rfl
                                  have hcz64_6 : wc.cell? ⟨gb109, 6, none⟩ = some (.int .i64 a0_6) := (blk_cell BK109.out 6).trans rfl
                                  have hcz64_7 : wc.cell? ⟨gb109, 7, none⟩ = some (.int .i64 a0_7) := (blk_cell BK109.out 7).trans rfl
                                  have hfz64_0 := blk_frozen BK109.out 0
                                  have hfz64_1 := blk_frozen BK109.out 1
                                  have hfz64_2 := blk_frozen BK109.out 2
                                  have hfz64_3 := blk_frozen BK109.out 3
                                  have hfz64_4 := blk_frozen BK109.out 4
                                  have hfz64_5 := blk_frozen BK109.out 5
                                  have hfz64_6 := blk_frozen BK109.out 6
                                  have hfz64_7 := blk_frozen BK109.out 7
                                  go_wp2
                                  go_meet
                                  case rel => exact ⟨_, (true), (by first | rfl | (simp; done) | (simp [*]; done)), H', ⟨by have := HJ1.out; have := HJ8.out; have := HJ10.out; have := HJ13.out; first | omega | exact Nat.le_refl _⟩, ⟨by (with_reducible repeat (first | refine blk_drewN ?_ _ | refine blk_drew ?_ | refine blk_alloc ?_ _)); exact BK109.out⟩, ⟨by repeat (first | (with_reducible first | exact HB.out | apply below_alloc | apply pw_below_drewN | apply below_drew1 | refine below_set ?_ GE109.out) | exact HB.out)⟩⟩
                          · as_aux_lemma =>
                            rw [if_neg c45] at H
                            have c45b0 : (a0_0 == 8) = false := beq_eq_false_iff_ne.mpr c45
                            have c45b1 : (a0_0 != 8) = true := bne_iff_ne.mpr c45
                            have H' := Aside0.mk H
                            clear H
                            have hcz65_0 : wc.cell? ⟨gb109, 0, none⟩ = some (.int .i64 a0_0) := (blk_cell BK109.out 0).trans rfl
                            have hcz65_1 : wc.cell? ⟨gb109, 1, none⟩ = some (.int .i64 a0_1) := (blk_cell BK109.out 1).trans rfl
                            have hcz65_2 : wc.cell? ⟨gb109, 2, none⟩ = some (.bool true) := (blk_cell BK109.out 2).trans rfl
                            have hcz65_3 : wc.cell? ⟨gb109, 3, none⟩ = some (.string a0_3) := (blk_cell BK109.out 3).trans rfl
                            have hcz65_4 : wc.cell? ⟨gb109, 4, none⟩ = some (.string a0_4) := (blk_cell BK109.out 4).trans rfl
                            have hcz65_5 : wc.cell? ⟨gb109, 5, none⟩ = some (.string a0_5) := (blk_cell BK109.out 5).trans rfl
                            have hcz65_6 : wc.cell? ⟨gb109, 6, none⟩ = some (.int .i64 a0_6) := (blk_cell BK109.out 6).trans rfl
                            have hcz65_7 : wc.cell? ⟨gb109, 7, none⟩ = some (.int .i64 a0_7) := (blk_cell BK109.out 7).trans rfl
                            have hfz65_0 := blk_frozen BK109.out 0
                            have hfz65_1 := blk_frozen BK109.out 1
                            have hfz65_2 := blk_frozen BK109.out 2
                            have hfz65_3 := blk_frozen BK109.out 3
                            have hfz65_4 := blk_frozen BK109.out 4
                            have hfz65_5 := blk_frozen BK109.out 5
                            have hfz65_6 := blk_frozen BK109.out 6
                            have hfz65_7 := blk_frozen BK109.out 7
                            go_wp2
                            go_meet
                            case rel => exact ⟨_, (true), (by first | rfl | (simp; done) | (simp [*]; done)), H', ⟨by have := HJ1.out; have := HJ8.out; have := HJ10.out; have := HJ13.out; first | omega | exact Nat.le_refl _⟩, ⟨by (with_reducible repeat (first | refine blk_drewN ?_ _ | refine blk_drew ?_ | refine blk_alloc ?_ _)); exact BK109.out⟩, ⟨by repeat (first | (with_reducible first | exact HB.out | apply below_alloc | apply pw_below_drewN | apply below_drew1 | refine below_set ?_ GE109.out) | exact HB.out)⟩⟩
                      · replace c24 := Bool.eq_false_iff.mpr c24
                        subst c24
                        have H1 : (if a0_3.toList = ([] : List UInt8) then (if a0_4.toList = ([] : List UInt8) then (if a0_5.toList = ([] : List UInt8) then (spec_EventOk.j4 kj13 false a0_0 a0_1 false a0_3 a0_4 a0_5 a0_6 a0_7) else (spec_EventOk.j4 kj13 (!x3_1) a0_0 a0_1 false a0_3 a0_4 a0_5 a0_6 a0_7)) else (spec_EventOk.j4 kj13 (!x3_1) a0_0 a0_1 false a0_3 a0_4 a0_5 a0_6 a0_7)) else (if a0_0 = 5 then (if a0_4.toList = ([] : List UInt8) then (if a0_5.toList = ([] : List UInt8) then (spec_EventOk.j4 kj13 false a0_0 a0_1 false a0_3 a0_4 a0_5 a0_6 a0_7) else (spec_EventOk.j4 kj13 (!x3_1) a0_0 a0_1 false a0_3 a0_4 a0_5 a0_6 a0_7)) else (spec_EventOk.j4 kj13 (!x3_1) a0_0 a0_1 false a0_3 a0_4 a0_5 a0_6 a0_7)) else (if a0_0 = 6 then (if a0_4.toList = ([] : List UInt8) then (if a0_5.toList = ([] : List UInt8) then (spec_EventOk.j4 kj13 false a0_0 a0_1 false a0_3 a0_4 a0_5 a0_6 a0_7) else (spec_EventOk.j4 kj13 (!x3_1) a0_0 a0_1 false a0_3 a0_4 a0_5 a0_6 a0_7)) else (spec_EventOk.j4 kj13 (!x3_1) a0_0 a0_1 false a0_3 a0_4 a0_5 a0_6 a0_7)) else (spec_EventOk.j4 kj13 true a0_0 a0_1 false a0_3 a0_4 a0_5 a0_6 a0_7)))) = some r := by rw [if_neg (show ¬ (false = true) by decide)] at H; exact H
                        clear H
                        have H := H1
                        clear H1
                        by_cases c66 : a0_3.toList = ([] : List UInt8)
                        · as_aux_lemma =>
                          rw [if_pos c66] at H
                          have c66b14 : a0_3.toList.isEmpty = true := by rw [c66]; rfl
                          try rw [c66b14]
                          have c66b0 : (a0_3.toList == ([] : List UInt8)) = true := beq_iff_eq.mpr c66
                          have c66b1 : (a0_3.toList != ([] : List UInt8)) = false := bne_eq_false_iff_eq.mpr c66
                          clear c66
                          by_cases c67 : a0_4.toList = ([] : List UInt8)
                          · as_aux_lemma =>
                            rw [if_pos c67] at H
                            have c67b14 : a0_4.toList.isEmpty = true := by rw [c67]; rfl
                            try rw [c67b14]
                            have c67b0 : (a0_4.toList == ([] : List UInt8)) = true := beq_iff_eq.mpr c67
                            have c67b1 : (a0_4.toList != ([] : List UInt8)) = false := bne_eq_false_iff_eq.mpr c67
                            clear c67
                            by_cases c68 : a0_5.toList = ([] : List UInt8)
                            · as_aux_lemma =>
                              rw [if_pos c68] at H
                              have c68b14 : a0_5.toList.isEmpty = true := by rw [c68]; rfl
                              try rw [c68b14]
                              have c68b0 : (a0_5.toList == ([] : List UInt8)) = true := beq_iff_eq.mpr c68
                              have c68b1 : (a0_5.toList != ([] : List UInt8)) = false := bne_eq_false_iff_eq.mpr c68
                              clear c68
                              have H' := Aside0.mk H
                              clear H
                              have hcz69_0 : wc.cell? ⟨gb109, 0, none⟩ = some (.int .i64 a0_0) := (blk_cell BK109.out 0).trans rfl
                              have hcz69_1 : wc.cell? ⟨gb109, 1, none⟩ = some (.int .i64 a0_1) := (blk_cell BK109.out 1).trans rfl
                              have hcz69_2 : wc.cell? ⟨gb109, 2, none⟩ = some (.bool false) := (blk_cell BK109.out 2).trans rfl
                              have hcz69_3 : wc.cell? ⟨gb109, 3, none⟩ = some (.string a0_3) := (blk_cell BK109.out 3).trans rfl
                              have hcz69_4 : wc.cell? ⟨gb109, 4, none⟩ = some (.string a0_4) := (blk_cell BK109.out 4).trans rfl
                              have hcz69_5 : wc.cell? ⟨gb109, 5, none⟩ = some (.string a0_5) := (blk_cell BK109.out 5).trans rfl
                              have hcz69_6 : wc.cell? ⟨gb109, 6, none⟩ = some (.int .i64 a0_6) := (blk_cell BK109.out 6).trans rfl
                              have hcz69_7 : wc.cell? ⟨gb109, 7, none⟩ = some (.int .i64 a0_7) := (blk_cell BK109.out 7).trans rfl
                              have hfz69_0 := blk_frozen BK109.out 0
                              have hfz69_1 := blk_frozen BK109.out 1
                              have hfz69_2 := blk_frozen BK109.out 2
                              have hfz69_3 := blk_frozen BK109.out 3
                              have hfz69_4 := blk_frozen BK109.out 4
                              have hfz69_5 := blk_frozen BK109.out 5
                              have hfz69_6 := blk_frozen BK109.out 6
                              have hfz69_7 := blk_frozen BK109.out 7
                              go_wp2
                              go_meet
                              case rel => exact ⟨_, (false), (by first | rfl | (simp; done) | (simp [*]; done)), H', ⟨by have := HJ1.out; have := HJ8.out; have := HJ10.out; have := HJ13.out; first | omega | exact Nat.le_refl _⟩, ⟨by (with_reducible repeat (first | refine blk_drewN ?_ _ | refine blk_drew ?_ | refine blk_alloc ?_ _)); exact BK109.out⟩, ⟨by repeat (first | (with_reducible first | exact HB.out | apply below_alloc | apply pw_below_drewN | apply below_drew1 | refine below_set ?_ GE109.out) | exact HB.out)⟩⟩
                            · as_aux_lemma =>
                              rw [if_neg c68] at H
                              have c68b14 : a0_5.toList.isEmpty = false := by simpa using c68
                              try rw [c68b14]
                              have c68b0 : (a0_5.toList == ([] : List UInt8)) = false := beq_eq_false_iff_ne.mpr c68
                              have c68b1 : (a0_5.toList != ([] : List UInt8)) = true := bne_iff_ne.mpr c68
                              have H' := Aside0.mk H
                              clear H
                              have hcz70_0 : wc.cell? ⟨gb109, 0, none⟩ = some (.int .i64 a0_0) := (blk_cell BK109.out 0).trans rfl
                              have hcz70_1 : wc.cell? ⟨gb109, 1, none⟩ = some (.int .i64 a0_1) := (blk_cell BK109.out 1).trans rfl
                              have hcz70_2 : wc.cell? ⟨gb109, 2, none⟩ = some (.bool false) := (blk_cell BK109.out 2).trans rfl
                              have hcz70_3 : wc.cell? ⟨gb109, 3, none⟩ = some (.string a0_3) := (blk_cell BK109.out 3).trans rfl
                              have hcz70_4 : wc.cell? ⟨gb109, 4, none⟩ = some (.string a0_4) := (blk_cell BK109.out 4).trans rfl
                              have hcz70_5 : wc.cell? ⟨gb109, 5, none⟩ = some (.string a0_5) := (blk_cell BK109.out 5).trans rfl
                              have hcz70_6 : wc.cell? ⟨gb109, 6, none⟩ = some (.int .i64 a0_6) := (blk_cell BK109.out 6).trans rfl
                              have hcz70_7 : wc.cell? ⟨gb109, 7, none⟩ = some (.int .i64 a0_7) := (blk_cell BK109.out 7).trans rfl
                              have hfz70_0 := blk_frozen BK109.out 0
                              have hfz70_1 := blk_frozen BK109.out 1
                              have hfz70_2 := blk_frozen BK109.out 2
                              have hfz70_3 := blk_frozen BK109.out 3
                              have hfz70_4 := blk_frozen BK109.out 4
                              have hfz70_5 := blk_frozen BK109.out 5
                              have hfz70_6 := blk_frozen BK109.out 6
                              have hfz70_7 := blk_frozen BK109.out 7
                              go_wp2
                              go_meet
                              case rel => exact ⟨_, (!x3_1), (by first | rfl | (simp; done) | (simp [*]; done)), H', ⟨by have := HJ1.out; have := HJ8.out; have := HJ10.out; have := HJ13.out; first | omega | exact Nat.le_refl _⟩, ⟨by (with_reducible repeat (first | refine blk_drewN ?_ _ | refine blk_drew ?_ | refine blk_alloc ?_ _)); exact BK109.out⟩, ⟨by repeat (first | (with_reducible first | exact HB.out | apply below_alloc | apply pw_below_drewN | apply below_drew1 | refine below_set ?_ GE109.out) | exact HB.out)⟩⟩
                          · as_aux_lemma =>
                            rw [if_neg c67] at H
                            have c67b14 : a0_4.toList.isEmpty = false := by simpa using c67
                            try rw [c67b14]
                            have c67b0 : (a0_4.toList == ([] : List UInt8)) = false := beq_eq_false_iff_ne.mpr c67
                            have c67b1 : (a0_4.toList != ([] : List UInt8)) = true := bne_iff_ne.mpr c67
                            have H' := Aside0.mk H
                            clear H
                            have hcz71_0 : wc.cell? ⟨gb109, 0, none⟩ = some (.int .i64 a0_0) := (blk_cell BK109.out 0).trans rfl
                            have hcz71_1 : wc.cell? ⟨gb109, 1, none⟩ = some (.int .i64 a0_1) := (blk_cell BK109.out 1).trans rfl
                            have hcz71_2 : wc.cell? ⟨gb109, 2, none⟩ = some (.bool false) := (blk_cell BK109.out 2).trans rfl
                            have hcz71_3 : wc.cell? ⟨gb109, 3, none⟩ = some (.string a0_3) := (blk_cell BK109.out 3).trans rfl
                            have hcz71_4 : wc.cell? ⟨gb109, 4, none⟩ = some (.string a0_4) := (blk_cell BK109.out 4).trans rfl
                            have hcz71_5 : wc.cell? ⟨gb109, 5, none⟩ = some (.string a0_5) := (blk_cell BK109.out 5).trans rfl
                            have hcz71_6 : wc.cell? ⟨gb109, 6, none⟩ = some (.int .i64 a0_6) := (blk_cell BK109.out 6).trans rfl
                            have hcz71_7 : wc.cell? ⟨gb109, 7, none⟩ = some (.int .i64 a0_7) := (blk_cell BK109.out 7).trans rfl
                            have hfz71_0 := blk_frozen BK109.out 0
                            have hfz71_1 := blk_frozen BK109.out 1
                            have hfz71_2 := blk_frozen BK109.out 2
                            have hfz71_3 := blk_frozen BK109.out 3
                            have hfz71_4 := blk_frozen BK109.out 4
                            have hfz71_5 := blk_frozen BK109.out 5
                            have hfz71_6 := blk_frozen BK109.out 6
                            have hfz71_7 := blk_frozen BK109.out 7
                            go_wp2
                            go_meet
                            case rel => exact ⟨_, (!x3_1), (by first | rfl | (simp; done) | (simp [*]; done)), H', ⟨by have := HJ1.out; have := HJ8.out; have := HJ10.out; have := HJ13.out; first | omega | exact Nat.le_refl _⟩, ⟨by (with_reducible repeat (first | refine blk_drewN ?_ _ | refine blk_drew ?_ | refine blk_alloc ?_ _)); exact BK109.out⟩, ⟨by repeat (first | (with_reducible first | exact HB.out | apply below_alloc | apply pw_below_drewN | apply below_drew1 | refine below_set ?_ GE109.out) | exact HB.out)⟩⟩
                        · as_aux_lemma =>
                          rw [if_neg c66] at H
                          have c66b14 : a0_3.toList.isEmpty = false := by simpa using c66
                          try rw [c66b14]
                          have c66b0 : (a0_3.toList == ([] : List UInt8)) = false := beq_eq_false_iff_ne.mpr c66
                          have c66b1 : (a0_3.toList != ([] : List UInt8)) = true := bne_iff_ne.mpr c66
                          by_cases c72 : a0_0 = 5
                          · as_aux_lemma =>
                            rw [if_pos c72] at H
                            have c72b0 : (a0_0 == 5) = true := beq_iff_eq.mpr c72
                            have c72b1 : (a0_0 != 5) = false := bne_eq_false_iff_eq.mpr c72
                            clear c72
                            by_cases c73 : a0_4.toList = ([] : List UInt8)
                            · as_aux_lemma =>
                              rw [if_pos c73] at H
                              have c73b14 : a0_4.toList.isEmpty = true := by rw [c73]; rfl
                              try rw [c73b14]
                              have c73b0 : (a0_4.toList == ([] : List UInt8)) = true := beq_iff_eq.mpr c73
                              have c73b1 : (a0_4.toList != ([] : List UInt8)) = false := bne_eq_false_iff_eq.mpr c73
                              clear c73
                              by_cases c74 : a0_5.toList = ([] : List UInt8)
                              · as_aux_lemma =>
                                rw [if_pos c74] at H
                                have c74b14 : a0_5.toList.isEmpty = true := by rw [c74]; rfl
                                try rw [c74b14]
                                have c74b0 : (a0_5.toList == ([] : List UInt8)) = true := beq_iff_eq.mpr c74
                                have c74b1 : (a0_5.toList != ([] : List UInt8)) = false := bne_eq_false_iff_eq.mpr c74
                                clear c74
                                have H' := Aside0.mk H
                                clear H
                                have hcz75_0 : wc.cell? ⟨gb109, 0, none⟩ = some (.int .i64 a0_0) := (blk_cell BK109.out 0).trans rfl
                                have hcz75_1 : wc.cell? ⟨gb109, 1, none⟩ = some (.int .i64 a0_1) := (blk_cell BK109.out 1).trans rfl
                                have hcz75_2 : wc.cell? ⟨gb109, 2, none⟩ = some (.bool false) := (blk_cell BK109.out 2).trans rfl
                                have hcz75_3 : wc.cell? ⟨gb109, 3, none⟩ = some (.string a0_3) := (blk_cell BK109.out 3).trans rfl
                                have hcz75_4 : wc.cell? ⟨gb109, 4, none⟩ = some (.string a0_4) := (blk_cell BK109.out 4).trans rfl
                                have hcz75_5 : wc.cell? ⟨gb109, 5, none⟩ = some (.string a0_5) := (blk_cell BK109.out 5).trans rfl
                                have hcz75_6 : wc.cell? ⟨gb109, 6, none⟩ = some (.int .i64 a0_6) := (blk_cell BK109.out 6).trans rfl
                                have hcz75_7 : wc.cell? ⟨gb109, 7, none⟩ = some (.int .i64 a0_7) := (blk_cell BK109.out 7).trans rfl
                                have hfz75_0 := blk_frozen BK109.out 0
                                have hfz75_1 := blk_frozen BK109.out 1
                                have hfz75_2 := blk_frozen BK109.out 2
                                have hfz75_3 := blk_frozen BK109.out 3
                                have hfz75_4 := blk_frozen BK109.out 4
                                have hfz75_5 := blk_frozen BK109.out 5
                                have hfz75_6 := blk_frozen BK109.out 6
                                have hfz75_7 := blk_frozen BK109.out 7
                                go_wp2
                                go_meet
                                case rel => exact ⟨_, (false), (by first | rfl | (simp; done) | (simp [*]; done)), H', ⟨by have := HJ1.out; have := HJ8.out; have := HJ10.out; have := HJ13.out; first | omega | exact Nat.le_refl _⟩, ⟨by (with_reducible repeat (first | refine blk_drewN ?_ _ | refine blk_drew ?_ | refine blk_alloc ?_ _)); exact BK109.out⟩, ⟨by repeat (first | (with_reducible first | exact HB.out | apply below_alloc | apply pw_below_drewN | apply below_drew1 | refine below_set ?_ GE109.out) | exact HB.out)⟩⟩
                              · as_aux_lemma =>
                                rw [if_neg c74] at H
                                have c74b14 : a0_5.toList.isEmpty = false := by simpa using c74
                                try rw [c74b14]
                                have c74b0 : (a0_5.toList == ([] : List UInt8)) = false := beq_eq_false_iff_ne.mpr c74
                                have c74b1 : (a0_5.toList != ([] : List UInt8)) = true := bne_iff_ne.mpr c74
                                have H' := Aside0.mk H
                                clear H
                                have hcz76_0 : wc.cell? ⟨gb109, 0, none⟩ = some (.int .i64 a0_0) := (blk_cell BK109.out 0).trans rfl
                                have hcz76_1 : wc.cell? ⟨gb109, 1, none⟩ = some (.int .i64 a0_1) := (blk_cell BK109.out 1).trans rfl
                                have hcz76_2 : wc.cell? ⟨gb109, 2, none⟩ = some (.bool false) := (blk_cell BK109.out 2).trans rfl
                                have hcz76_3 : wc.cell? ⟨gb109, 3, none⟩ = some (.string a0_3) := (blk_cell BK109.out 3).trans rfl
                                have hcz76_4 : wc.cell? ⟨gb109, 4, none⟩ = some (.string a0_4) := (blk_cell BK109.out 4).trans rfl
                                have hcz76_5 : wc.cell? ⟨gb109, 5, none⟩ = some (.string a0_5) := (blk_cell BK109.out 5).trans rfl
                                have hcz76_6 : wc.cell? ⟨gb109, 6, none⟩ = some (.int .i64 a0_6) := (blk_cell BK109.out 6).trans rfl
                                have hcz76_7 : wc.cell? ⟨gb109, 7, none⟩ = some (.int .i64 a0_7) := (blk_cell BK109.out 7).trans rfl
                                have hfz76_0 := blk_frozen BK109.out 0
                                have hfz76_1 := blk_frozen BK109.out 1
                                have hfz76_2 := blk_frozen BK109.out 2
                                have hfz76_3 := blk_frozen BK109.out 3
                                have hfz76_4 := blk_frozen BK109.out 4
                                have hfz76_5 := blk_frozen BK109.out 5
                                have hfz76_6 := blk_frozen BK109.out 6
                                have hfz76_7 := blk_frozen BK109.out 7
                                go_wp2
                                go_meet
                                case rel => exact ⟨_, (!x3_1), (by first | rfl | (simp; done) | (simp [*]; done)), H', ⟨by have := HJ1.out; have := HJ8.out; have := HJ10.out; have := HJ13.out; first | omega | exact Nat.le_refl _⟩, ⟨by (with_reducible repeat (first | refine blk_drewN ?_ _ | refine blk_drew ?_ | refine blk_alloc ?_ _)); exact BK109.out⟩, ⟨by repeat (first | (with_reducible first | exact HB.out | apply below_alloc | apply pw_below_drewN | apply below_drew1 | refine below_set ?_ GE109.out) | exact HB.out)⟩⟩
                            · as_aux_lemma =>
                              rw [if_neg c73] at H
                              have c73b14 : a0_4.toList.isEmpty = false := by simpa using c73
                              try rw [c73b14]
                              have c73b0 : (a0_4.toList == ([] : List UInt8)) = false := beq_eq_false_iff_ne.mpr c73
                              have c73b1 : (a0_4.toList != ([] : List UInt8)) = true := bne_iff_ne.mpr c73
                              have H' := Aside0.mk H
                              clear H
                              have hcz77_0 : wc.cell? ⟨gb109, 0, none⟩ = some (.int .i64 a0_0) := (blk_cell BK109.out 0).trans rfl
                              have hcz77_1 : wc.cell? ⟨gb109, 1, none⟩ = some (.int .i64 a0_1) := (blk_cell BK109.out 1).trans rfl
                              have hcz77_2 : wc.cell? ⟨gb109, 2, none⟩ = some (.bool false) := (blk_cell BK109.out 2).trans rfl
                              have hcz77_3 : wc.cell? ⟨gb109, 3, none⟩ = some (.string a0_3) := (blk_cell BK109.out 3).trans rfl
                              have hcz77_4 : wc.cell? ⟨gb109, 4, none⟩ = some (.string a0_4) := (blk_cell BK109.out 4).trans rfl
                              have hcz77_5 : wc.cell? ⟨gb109, 5, none⟩ = some (.string a0_5) := (blk_cell BK109.out 5).trans rfl
                              have hcz77_6 : wc.cell? ⟨gb109, 6, none⟩ = some (.int .i64 a0_6) := (blk_cell BK109.out 6).trans rfl
                              have hcz77_7 : wc.cell? ⟨gb109, 7, none⟩ = some (.int .i64 a0_7) := (blk_cell BK109.out 7).trans rfl
                              have hfz77_0 := blk_frozen BK109.out 0
                              have hfz77_1 := blk_frozen BK109.out 1
                              have hfz77_2 := blk_frozen BK109.out 2
                              have hfz77_3 := blk_frozen BK109.out 3
                              have hfz77_4 := blk_frozen BK109.out 4
                              have hfz77_5 := blk_frozen BK109.out 5
                              have hfz77_6 := blk_frozen BK109.out 6
                              have hfz77_7 := blk_frozen BK109.out 7
                              go_wp2
                              go_meet
                              case rel => exact ⟨_, (!x3_1), (by first | rfl | (simp; done) | (simp [*]; done)), H', ⟨by have := HJ1.out; have := HJ8.out; have := HJ10.out; have := HJ13.out; first | omega | exact Nat.le_refl _⟩, ⟨by (with_reducible repeat (first | refine blk_drewN ?_ _ | refine blk_drew ?_ | refine blk_alloc ?_ _)); exact BK109.out⟩, ⟨by repeat (first | (with_reducible first | exact HB.out | apply below_alloc | apply pw_below_drewN | apply below_drew1 | refine below_set ?_ GE109.out) | exact HB.out)⟩⟩
                          · as_aux_lemma =>
                            rw [if_neg c72] at H
                            have c72b0 : (a0_0 == 5) = false := beq_eq_false_iff_ne.mpr c72
                            have c72b1 : (a0_0 != 5) = true := bne_iff_ne.mpr c72
                            by_cases c78 : a0_0 = 6
                            · as_aux_lemma =>
                              rw [if_pos c78] at H
                              have c78b0 : (a0_0 == 6) = true := beq_iff_eq.mpr c78
                              have c78b1 : (a0_0 != 6) = false := bne_eq_false_iff_eq.mpr c78
                              clear c78
                              by_cases c79 : a0_4.toList = ([] : List UInt8)
                              · as_aux_lemma =>
                                rw [if_pos c79] at H
                                have c79b14 : a0_4.toList.isEmpty = true := by rw [c79]; rfl
                                try rw [c79b14]
                                have c79b0 : (a0_4.toList == ([] : List UInt8)) = true := beq_iff_eq.mpr c79
                                have c79b1 : (a0_4.toList != ([] : List UInt8)) = false := bne_eq_false_iff_eq.mpr c79
                                clear c79
                                by_cases c80 : a0_5.toList = ([] : List UInt8)
                                · as_aux_lemma =>
                                  rw [if_pos c80] at H
                                  have c80b14 : a0_5.toList.isEmpty = true := by rw [c80]; rfl
                                  try rw [c80b14]
                                  have c80b0 : (a0_5.toList == ([] : List UInt8)) = true := beq_iff_eq.mpr c80
                                  have c80b1 : (a0_5.toList != ([] : List UInt8)) = false := bne_eq_false_iff_eq.mpr c80
                                  clear c80
                                  have H' := Aside0.mk H
                                  clear H
                                  have hcz81_0 : wc.cell? ⟨gb109, 0, none⟩ = some (.int .i64 a0_0) := (blk_cell BK109.out 0).trans rfl
                                  have hcz81_1 : wc.cell? ⟨gb109, 1, none⟩ = some (.int .i64 a0_1) := (blk_cell BK109.out 1).trans rfl
                                  have hcz81_2 : wc.cell? ⟨gb109, 2, none⟩ = some (.bool false) := (blk_cell BK109.out 2).trans rfl
                                  have hcz81_3 : wc.cell? ⟨gb109, 3, none⟩ = some (.string a0_3) := (blk_cell BK109.out 3).trans rfl
                                  have hcz81_4 : wc.cell? ⟨gb109, 4, none⟩ = some (.string a0_4) := (blk_cell BK109.out 4).trans rfl
                                  have hcz81_5 : wc.cell? ⟨gb109, 5, none⟩ = some (.string a0_5) := (blk_cell BK109.out 5).trans rfl
                                  have hcz81_6 : wc.cell? ⟨gb109, 6, none⟩ = some (.int .i64 a0_6) := (blk_cell BK109.out 6).trans rfl
                                  have hcz81_7 : wc.cell? ⟨gb109, 7, none⟩ = some (.int .i64 a0_7) := (blk_cell BK109.out 7).trans rfl
                                  have hfz81_0 := blk_frozen BK109.out 0
                                  have hfz81_1 := blk_frozen BK109.out 1
                                  have hfz81_2 := blk_frozen BK109.out 2
                                  have hfz81_3 := blk_frozen BK109.out 3
                                  have hfz81_4 := blk_frozen BK109.out 4
                                  have hfz81_5 := blk_frozen BK109.out 5
                                  have hfz81_6 := blk_frozen BK109.out 6
                                  have hfz81_7 := blk_frozen BK109.out 7
                                  go_wp2
                                  go_meet
                                  case rel => exact ⟨_, (false), (by first | rfl | (simp; done) | (simp [*]; done)), H', ⟨by have := HJ1.out; have := HJ8.out; have := HJ10.out; have := HJ13.out; first | omega | exact Nat.le_refl _⟩, ⟨by (with_reducible repeat (first | refine blk_drewN ?_ _ | refine blk_drew ?_ | refine blk_alloc ?_ _)); exact BK109.out⟩, ⟨by repeat (first | (with_reducible first | exact HB.out | apply below_alloc | apply pw_below_drewN | apply below_drew1 | refine below_set ?_ GE109.out) | exact HB.out)⟩⟩
                                · as_aux_lemma =>
                                  rw [if_neg c80] at H
                                  have c80b14 : a0_5.toList.isEmpty = false := by simpa using c80
                                  try rw [c80b14]
                                  have c80b0 : (a0_5.toList == ([] : List UInt8)) = false := beq_eq_false_iff_ne.mpr c80
                                  have c80b1 : (a0_5.toList != ([] : List UInt8)) = true := bne_iff_ne.mpr c80
                                  have H' := Aside0.mk H
                                  clear H
                                  have hcz82_0 : wc.cell? ⟨gb109, 0, none⟩ = some (.int .i64 a0_0) := (blk_cell BK109.out 0).trans rfl
                                  have hcz82_1 : wc.cell? ⟨gb109, 1, none⟩ = some (.int .i64 a0_1) := (blk_cell BK109.out 1).trans rfl
                                  have hcz82_2 : wc.cell? ⟨gb109, 2, none⟩ = some (.bool false) := (blk_cell BK109.out 2).trans rfl
                                  have hcz82_3 : wc.cell? ⟨gb109, 3, none⟩ = some (.string a0_3) := (blk_cell BK109.out 3).trans rfl
                                  have hcz82_4 : wc.cell? ⟨gb109, 4, none⟩ = some (.string a0_4) := (blk_cell BK109.out 4).trans rfl
                                  have hcz82_5 : wc.cell? ⟨gb109, 5, none⟩ = some (.string a0_5) := (blk_cell BK109.out 5).trans rfl
                                  have hcz82_6 : wc.cell? ⟨gb109, 6, none⟩ = some (.int .i64 a0_6) := (blk_cell BK109.out 6).trans rfl
                                  have hcz82_7 : wc.cell? ⟨gb109, 7, none⟩ = some (.int .i64 a0_7) := (blk_cell BK109.out 7).trans rfl
                                  have hfz82_0 := blk_frozen BK109.out 0
                                  have hfz82_1 := blk_frozen BK109.out 1
                                  have hfz82_2 := blk_frozen BK109.out 2
                                  have hfz82_3 := blk_frozen BK109.out 3
                                  have hfz82_4 := blk_frozen BK109.out 4
                                  have hfz82_5 := blk_frozen BK109.out 5
                                  have hfz82_6 := blk_frozen BK109.out 6
                                  have hfz82_7 := blk_frozen BK109.out 7
                                  go_wp2
                                  go_meet
                                  case rel => exact ⟨_, (!x3_1), (by first | rfl | (simp; done) | (simp [*]; done)), H', ⟨by have := HJ1.out; have := HJ8.out; have := HJ10.out; have := HJ13.out; first | omega | exact Nat.le_refl _⟩, ⟨by (with_reducible repeat (first | refine blk_drewN ?_ _ | refine blk_drew ?_ | refine blk_alloc ?_ _)); exact BK109.out⟩, ⟨by repeat (first | (with_reducible first | exact HB.out | apply below_alloc | apply pw_below_drewN | apply below_drew1 | refine below_set ?_ GE109.out) | exact HB.out)⟩⟩
                              · as_aux_lemma =>
                                rw [if_neg c79] at H
                                have c79b14 : a0_4.toList.isEmpty = false := by simpa using c79
                                try rw [c79b14]
                                have c79b0 : (a0_4.toList == ([] : List UInt8)) = false := beq_eq_false_iff_ne.mpr c79
                                have c79b1 : (a0_4.toList != ([] : List UInt8)) = true := bne_iff_ne.mpr c79
                                have H' := Aside0.mk H
                                clear H
                                have hcz83_0 : wc.cell? ⟨gb109, 0, none⟩ = some (.int .i64 a0_0) := (blk_cell BK109.out 0).trans rfl
                                have hcz83_1 : wc.cell? ⟨gb109, 1, none⟩ = some (.int .i64 a0_1) := (blk_cell BK109.out 1).trans rfl
                                have hcz83_2 : wc.cell? ⟨gb109, 2, none⟩ = some (.bool false) := (blk_cell BK109.out 2).trans rfl
                                have hcz83_3 : wc.cell? ⟨gb109, 3, none⟩ = some (.string a0_3) := (blk_cell BK109.out 3).trans rfl
                                have hcz83_4 : wc.cell? ⟨gb109, 4, none⟩ = some (.string a0_4) := (blk_cell BK109.out 4).trans rfl
                                have hcz83_5 : wc.cell? ⟨gb109, 5, none⟩ = some (.string a0_5) := (blk_cell BK109.out 5).trans rfl
                                have hcz83_6 : wc.cell? ⟨gb109, 6, none⟩ = some (.int .i64 a0_6) := (blk_cell BK109.out 6).trans rfl
                                have hcz83_7 : wc.cell? ⟨gb109, 7, none⟩ = some (.int .i64 a0_7) := (blk_cell BK109.out 7).trans rfl
                                have hfz83_0 := blk_frozen BK109.out 0
                                have hfz83_1 := blk_frozen BK109.out 1
                                have hfz83_2 := blk_frozen BK109.out 2
                                have hfz83_3 := blk_frozen BK109.out 3
                                have hfz83_4 := blk_frozen BK109.out 4
                                have hfz83_5 := blk_frozen BK109.out 5
                                have hfz83_6 := blk_frozen BK109.out 6
                                have hfz83_7 := blk_frozen BK109.out 7
                                go_wp2
                                go_meet
                                case rel => exact ⟨_, (!x3_1), (by first | rfl | (simp; done) | (simp [*]; done)), H', ⟨by have := HJ1.out; have := HJ8.out; have := HJ10.out; have := HJ13.out; first | omega | exact Nat.le_refl _⟩, ⟨by (with_reducible repeat (first | refine blk_drewN ?_ _ | refine blk_drew ?_ | refine blk_alloc ?_ _)); exact BK109.out⟩, ⟨by repeat (first | (with_reducible first | exact HB.out | apply below_alloc | apply pw_below_drewN | apply below_drew1 | refine below_set ?_ GE109.out) | exact HB.out)⟩⟩
                            · as_aux_lemma =>
                              rw [if_neg c78] at H
                              have c78b0 : (a0_0 == 6) = false := beq_eq_false_iff_ne.mpr c78
                              have c78b1 : (a0_0 != 6) = true := bne_iff_ne.mpr c78
                              have H' := Aside0.mk H
                              clear H
                              have hcz84_0 : wc.cell? ⟨gb109, 0, none⟩ = some (.int .i64 a0_0) := (blk_cell BK109.out 0).trans rfl
                              have hcz84_1 : wc.cell? ⟨gb109, 1, none⟩ = some (.int .i64 a0_1) := (blk_cell BK109.out 1).trans rfl
                              have hcz84_2 : wc.cell? ⟨gb109, 2, none⟩ = some (.bool false) := (blk_cell BK109.out 2).trans rfl
                              have hcz84_3 : wc.cell? ⟨gb109, 3, none⟩ = some (.string a0_3) := (blk_cell BK109.out 3).trans rfl
                              have hcz84_4 : wc.cell? ⟨gb109, 4, none⟩ = some (.string a0_4) := (blk_cell BK109.out 4).trans rfl
                              have hcz84_5 : wc.cell? ⟨gb109, 5, none⟩ = some (.string a0_5) := (blk_cell BK109.out 5).trans rfl
                              have hcz84_6 : wc.cell? ⟨gb109, 6, none⟩ = some (.int .i64 a0_6) := (blk_cell BK109.out 6).trans rfl
                              have hcz84_7 : wc.cell? ⟨gb109, 7, none⟩ = some (.int .i64 a0_7) := (blk_cell BK109.out 7).trans rfl
                              have hfz84_0 := blk_frozen BK109.out 0
                              have hfz84_1 := blk_frozen BK109.out 1
                              have hfz84_2 := blk_frozen BK109.out 2
                              have hfz84_3 := blk_frozen BK109.out 3
                              have hfz84_4 := blk_frozen BK109.out 4
                              have hfz84_5 := blk_frozen BK109.out 5
                              have hfz84_6 := blk_frozen BK109.out 6
                              have hfz84_7 := blk_frozen BK109.out 7
                              go_wp2
                              go_meet
                              case rel => exact ⟨_, (true), (by first | rfl | (simp; done) | (simp [*]; done)), H', ⟨by have := HJ1.out; have := HJ8.out; have := HJ10.out; have := HJ13.out; first | omega | exact Nat.le_refl _⟩, ⟨by (with_reducible repeat (first | refine blk_drewN ?_ _ | refine blk_drew ?_ | refine blk_alloc ?_ _)); exact BK109.out⟩, ⟨by repeat (first | (with_reducible first | exact HB.out | apply below_alloc | apply pw_below_drewN | apply below_drew1 | refine below_set ?_ GE109.out) | exact HB.out)⟩⟩
                    case rest => as_aux_lemma =>
                      clear HC23
                      try clear c2
                      try clear p2
                      try clear c4
                      try clear c5
                      try clear c6
                      try clear c7
                      try clear c8
                      try clear c24
                      try clear c45
                      try clear c45b0
                      try clear c45b1
                      try clear c46
                      try clear c46b0
                      try clear c46b1
                      try clear c47
                      try clear c47b0
                      try clear c47b1
                      try clear c48
                      try clear c48b0
                      try clear c48b1
                      try clear c52
                      try clear c52b0
                      try clear c52b1
                      try clear c53
                      try clear c53b0
                      try clear c53b1
                      try clear c54
                      try clear c54b0
                      try clear c54b1
                      try clear c58
                      try clear c58b0
                      try clear c58b1
                      try clear c59
                      try clear c59b0
                      try clear c59b1
                      try clear c60
                      try clear c60b0
                      try clear c60b1
                      try clear c66
                      try clear c66b0
                      try clear c66b1
                      try clear c67
                      try clear c67b0
                      try clear c67b1
                      try clear c68
                      try clear c68b0
                      try clear c68b1
                      try clear c72
                      try clear c72b0
                      try clear c72b1
                      try clear c73
                      try clear c73b0
                      try clear c73b1
                      try clear c74
                      try clear c74b0
                      try clear c74b1
                      try clear c78
                      try clear c78b0
                      try clear c78b1
                      try clear c79
                      try clear c79b0
                      try clear c79b1
                      try clear c80
                      try clear c80b0
                      try clear c80b1
                      try clear hcz49_0
                      try clear hcz49_1
                      try clear hcz49_2
                      try clear hcz49_3
                      try clear hcz49_4
                      try clear hcz49_5
                      try clear hcz49_6
                      try clear hcz49_7
                      try clear hcz50_0
                      try clear hcz50_1
                      try clear hcz50_2
                      try clear hcz50_3
                      try clear hcz50_4
                      try clear hcz50_5
                      try clear hcz50_6
                      try clear hcz50_7
                      try clear hcz51_0
                      try clear hcz51_1
                      try clear hcz51_2
                      try clear hcz51_3
                      try clear hcz51_4
                      try clear hcz51_5
                      try clear hcz51_6
                      try clear hcz51_7
                      try clear hcz55_0
                      try clear hcz55_1
                      try clear hcz55_2
                      try clear hcz55_3
                      try clear hcz55_4
                      try clear hcz55_5
                      try clear hcz55_6
                      try clear hcz55_7
                      try clear hcz56_0
                      try clear hcz56_1
                      try clear hcz56_2
                      try clear hcz56_3
                      try clear hcz56_4
                      try clear hcz56_5
                      try clear hcz56_6
                      try clear hcz56_7
                      try clear hcz57_0
                      try clear hcz57_1
                      try clear hcz57_2
                      try clear hcz57_3
                      try clear hcz57_4
                      try clear hcz57_5
                      try clear hcz57_6
                      try clear hcz57_7
                      try clear hcz61_0
                      try clear hcz61_1
                      try clear hcz61_2
                      try clear hcz61_3
                      try clear hcz61_4
                      try clear hcz61_5
                      try clear hcz61_6
                      try clear hcz61_7
                      try clear hcz62_0
                      try clear hcz62_1
                      try clear hcz62_2
                      try clear hcz62_3
                      try clear hcz62_4
                      try clear hcz62_5
                      try clear hcz62_6
                      try clear hcz62_7
                      try clear hcz63_0
                      try clear hcz63_1
                      try clear hcz63_2
                      try clear hcz63_3
                      try clear hcz63_4
                      try clear hcz63_5
                      try clear hcz63_6
                      try clear hcz63_7
                      try clear hcz64_0
                      try clear hcz64_1
                      try clear hcz64_2
                      try clear hcz64_3
                      try clear hcz64_4
                      try clear hcz64_5
                      try clear hcz64_6
                      try clear hcz64_7
                      try clear hcz65_0
                      try clear hcz65_1
                      try clear hcz65_2
                      try clear hcz65_3
                      try clear hcz65_4
                      try clear hcz65_5
                      try clear hcz65_6
                      try clear hcz65_7
                      try clear hcz69_0
                      try clear hcz69_1
                      try clear hcz69_2
                      try clear hcz69_3
                      try clear hcz69_4
                      try clear hcz69_5
                      try clear hcz69_6
                      try clear hcz69_7
                      try clear hcz70_0
                      try clear hcz70_1
                      try clear hcz70_2
                      try clear hcz70_3
                      try clear hcz70_4
                      try clear hcz70_5
                      try clear hcz70_6
                      try clear hcz70_7
                      try clear hcz71_0
                      try clear hcz71_1
                      try clear hcz71_2
                      try clear hcz71_3
                      try clear hcz71_4
                      try clear hcz71_5
                      try clear hcz71_6
                      try clear hcz71_7
                      try clear hcz75_0
                      try clear hcz75_1
                      try clear hcz75_2
                      try clear hcz75_3
                      try clear hcz75_4
                      try clear hcz75_5
                      try clear hcz75_6
                      try clear hcz75_7
                      try clear hcz76_0
                      try clear hcz76_1
                      try clear hcz76_2
                      try clear hcz76_3
                      try clear hcz76_4
                      try clear hcz76_5
                      try clear hcz76_6
                      try clear hcz76_7
                      try clear hcz77_0
                      try clear hcz77_1
                      try clear hcz77_2
                      try clear hcz77_3
                      try clear hcz77_4
                      try clear hcz77_5
                      try clear hcz77_6
                      try clear hcz77_7
                      try clear hcz81_0
                      try clear hcz81_1
                      try clear hcz81_2
                      try clear hcz81_3
                      try clear hcz81_4
                      try clear hcz81_5
                      try clear hcz81_6
                      try clear hcz81_7
                      try clear hcz82_0
                      try clear hcz82_1
                      try clear hcz82_2
                      try clear hcz82_3
                      try clear hcz82_4
                      try clear hcz82_5
                      try clear hcz82_6
                      try clear hcz82_7
                      try clear hcz83_0
                      try clear hcz83_1
                      try clear hcz83_2
                      try clear hcz83_3
                      try clear hcz83_4
                      try clear hcz83_5
                      try clear hcz83_6
                      try clear hcz83_7
                      try clear hcz84_0
                      try clear hcz84_1
                      try clear hcz84_2
                      try clear hcz84_3
                      try clear hcz84_4
                      try clear hcz84_5
                      try clear hcz84_6
                      try clear hcz84_7
                      try clear hfz49_0
                      try clear hfz49_1
                      try clear hfz49_2
                      try clear hfz49_3
                      try clear hfz49_4
                      try clear hfz49_5
                      try clear hfz49_6
                      try clear hfz49_7
                      try clear hfz50_0
                      try clear hfz50_1
                      try clear hfz50_2
                      try clear hfz50_3
                      try clear hfz50_4
                      try clear hfz50_5
                      try clear hfz50_6
                      try clear hfz50_7
                      try clear hfz51_0
                      try clear hfz51_1
                      try clear hfz51_2
                      try clear hfz51_3
                      try clear hfz51_4
                      try clear hfz51_5
                      try clear hfz51_6
                      try clear hfz51_7
                      try clear hfz55_0
                      try clear hfz55_1
                      try clear hfz55_2
                      try clear hfz55_3
                      try clear hfz55_4
                      try clear hfz55_5
                      try clear hfz55_6
                      try clear hfz55_7
                      try clear hfz56_0
                      try clear hfz56_1
                      try clear hfz56_2
                      try clear hfz56_3
                      try clear hfz56_4
                      try clear hfz56_5
                      try clear hfz56_6
                      try clear hfz56_7
                      try clear hfz57_0
                      try clear hfz57_1
                      try clear hfz57_2
                      try clear hfz57_3
                      try clear hfz57_4
                      try clear hfz57_5
                      try clear hfz57_6
                      try clear hfz57_7
                      try clear hfz61_0
                      try clear hfz61_1
                      try clear hfz61_2
                      try clear hfz61_3
                      try clear hfz61_4
                      try clear hfz61_5
                      try clear hfz61_6
                      try clear hfz61_7
                      try clear hfz62_0
                      try clear hfz62_1
                      try clear hfz62_2
                      try clear hfz62_3
                      try clear hfz62_4
                      try clear hfz62_5
                      try clear hfz62_6
                      try clear hfz62_7
                      try clear hfz63_0
                      try clear hfz63_1
                      try clear hfz63_2
                      try clear hfz63_3
                      try clear hfz63_4
                      try clear hfz63_5
                      try clear hfz63_6
                      try clear hfz63_7
                      try clear hfz64_0
                      try clear hfz64_1
                      try clear hfz64_2
                      try clear hfz64_3
                      try clear hfz64_4
                      try clear hfz64_5
                      try clear hfz64_6
                      try clear hfz64_7
                      try clear hfz65_0
                      try clear hfz65_1
                      try clear hfz65_2
                      try clear hfz65_3
                      try clear hfz65_4
                      try clear hfz65_5
                      try clear hfz65_6
                      try clear hfz65_7
                      try clear hfz69_0
                      try clear hfz69_1
                      try clear hfz69_2
                      try clear hfz69_3
                      try clear hfz69_4
                      try clear hfz69_5
                      try clear hfz69_6
                      try clear hfz69_7
                      try clear hfz70_0
                      try clear hfz70_1
                      try clear hfz70_2
                      try clear hfz70_3
                      try clear hfz70_4
                      try clear hfz70_5
                      try clear hfz70_6
                      try clear hfz70_7
                      try clear hfz71_0
                      try clear hfz71_1
                      try clear hfz71_2
                      try clear hfz71_3
                      try clear hfz71_4
                      try clear hfz71_5
                      try clear hfz71_6
                      try clear hfz71_7
                      try clear hfz75_0
                      try clear hfz75_1
                      try clear hfz75_2
                      try clear hfz75_3
                      try clear hfz75_4
                      try clear hfz75_5
                      try clear hfz75_6
                      try clear hfz75_7
                      try clear hfz76_0
                      try clear hfz76_1
                      try clear hfz76_2
                      try clear hfz76_3
                      try clear hfz76_4
                      try clear hfz76_5
                      try clear hfz76_6
                      try clear hfz76_7
                      try clear hfz77_0
                      try clear hfz77_1
                      try clear hfz77_2
                      try clear hfz77_3
                      try clear hfz77_4
                      try clear hfz77_5
                      try clear hfz77_6
                      try clear hfz77_7
                      try clear hfz81_0
                      try clear hfz81_1
                      try clear hfz81_2
                      try clear hfz81_3
                      try clear hfz81_4
                      try clear hfz81_5
                      try clear hfz81_6
                      try clear hfz81_7
                      try clear hfz82_0
                      try clear hfz82_1
                      try clear hfz82_2
                      try clear hfz82_3
                      try clear hfz82_4
                      try clear hfz82_5
                      try clear hfz82_6
                      try clear hfz82_7
                      try clear hfz83_0
                      try clear hfz83_1
                      try clear hfz83_2
                      try clear hfz83_3
                      try clear hfz83_4
                      try clear hfz83_5
                      try clear hfz83_6
                      try clear hfz83_7
                      try clear hfz84_0
                      try clear hfz84_1
                      try clear hfz84_2
                      try clear hfz84_3
                      try clear hfz84_4
                      try clear hfz84_5
                      try clear hfz84_6
                      try clear hfz84_7
                      obtain ⟨kq, x83_22, rfl, HA, HJ22, BK109, HB⟩ := hcut
                      cases kq with
                      | zero => exact absurd HA.out (by simp [spec_EventOk.j4])
                      | succ kj22 =>
                        have H := HA.out
                        clear HA
                        simp only [spec_EventOk.j4] at H
                        by_cases c85 : x83_22 = true
                        · subst c85
                          have H1 : (some false) = some r := by rw [if_pos rfl] at H; exact H
                          clear H
                          have H := H1
                          clear H1
                          obtain rfl := Option.some.inj H
                          go_wp2
                          go_ret
                          exact ⟨by first | rfl | (simp [errW_none, errW_some] <;> rfl) | (simp [*, errW_none, errW_some] <;> rfl), by repeat (first | (with_reducible first | exact HB.out | apply below_alloc | apply pw_below_drewN | apply below_drew1 | refine below_set ?_ GE109.out) | exact HB.out)⟩
                        · replace c85 := Bool.eq_false_iff.mpr c85
                          subst c85
                          have H1 : (if a0_0 = 10 then (if a0_7 ≥ 1 then (if a0_7 ≤ 99 then (some (decide (a0_6 ≥ 0))) else (some false)) else (some false)) else (if a0_0 = 6 then (if a0_3.toList = ([] : List UInt8) then (some false) else ((spec_l09Name.f kj22 a0_3).bind fun t110 => (if t110 = true then ((spec_l09Name.f kj22 a0_4).bind fun t111 => (if t111 = true then (if (a0_5.size : Int) > 120 then (some false) else (if a0_7 = 0 then (some (a0_6 == 0)) else (some false))) else (some false))) else (some false)))) else ((spec_l09Name.f kj22 a0_4).bind fun t112 => (if t112 = true then (if (a0_5.size : Int) > 120 then (some false) else (if a0_7 = 0 then (some (a0_6 == 0)) else (some false))) else (some false))))) = some r := by rw [if_neg (show ¬ (false = true) by decide)] at H; exact H
                          clear H
                          have H := H1
                          clear H1
                          by_cases c86 : a0_0 = 10
                          · as_aux_lemma =>
                            rw [if_pos c86] at H
                            have c86b0 : (a0_0 == 10) = true := beq_iff_eq.mpr c86
                            have c86b1 : (a0_0 != 10) = false := bne_eq_false_iff_eq.mpr c86
                            clear c86
                            by_cases c87 : a0_7 ≥ 1
                            · as_aux_lemma =>
                              rw [if_pos c87] at H
                              have c87b0 : decide (1 ≤ a0_7) = true := decide_eq_true c87
                              clear c87
                              by_cases c88 : a0_7 ≤ 99
                              · as_aux_lemma =>
                                rw [if_pos c88] at H
                                have c88b0 : decide (a0_7 ≤ 99) = true := decide_eq_true c88
                                clear c88
                                obtain rfl := Option.some.inj H
                                have hcz89_0 : wc.cell? ⟨gb109, 0, none⟩ = some (.int .i64 a0_0) := (blk_cell BK109.out 0).trans rfl
                                have hcz89_1 : wc.cell? ⟨gb109, 1, none⟩ = some (.int .i64 a0_1) := (blk_cell BK109.out 1).trans rfl
                                have hcz89_2 : wc.cell? ⟨gb109, 2, none⟩ = some (.bool a0_2) := (blk_cell BK109.out 2).trans rfl
                                have hcz89_3 : wc.cell? ⟨gb109, 3, none⟩ = some (.string a0_3) := (blk_cell BK109.out 3).trans rfl
                                have hcz89_4 : wc.cell? ⟨gb109, 4, none⟩ = some (.string a0_4) := (blk_cell BK109.out 4).trans rfl
                                have hcz89_5 : wc.cell? ⟨gb109, 5, none⟩ = some (.string a0_5) := (blk_cell BK109.out 5).trans rfl
                                have hcz89_6 : wc.cell? ⟨gb109, 6, none⟩ = some (.int .i64 a0_6) := (blk_cell BK109.out 6).trans rfl
                                have hcz89_7 : wc.cell? ⟨gb109, 7, none⟩ = some (.int .i64 a0_7) := (blk_cell BK109.out 7).trans rfl
                                have hfz89_0 := blk_frozen BK109.out 0
                                have hfz89_1 := blk_frozen BK109.out 1
                                have hfz89_2 := blk_frozen BK109.out 2
                                have hfz89_3 := blk_frozen BK109.out 3
                                have hfz89_4 := blk_frozen BK109.out 4
                                have hfz89_5 := blk_frozen BK109.out 5
                                have hfz89_6 := blk_frozen BK109.out 6
                                have hfz89_7 := blk_frozen BK109.out 7
                                go_wp2
                                go_ret
                                exact ⟨by first | rfl | (simp [errW_none, errW_some] <;> rfl) | (simp [*, errW_none, errW_some] <;> rfl), by repeat (first | (with_reducible first | exact HB.out | apply below_alloc | apply pw_below_drewN | apply below_drew1 | refine below_set ?_ GE109.out) | exact HB.out)⟩
                              · as_aux_lemma =>
                                rw [if_neg c88] at H
                                have c88b0 : decide (a0_7 ≤ 99) = false := decide_eq_false c88
                                clear c88
                                obtain rfl := Option.some.inj H
                                have hcz90_0 : wc.cell? ⟨gb109, 0, none⟩ = some (.int .i64 a0_0) := (blk_cell BK109.out 0).trans rfl
                                have hcz90_1 : wc.cell? ⟨gb109, 1, none⟩ = some (.int .i64 a0_1) := (blk_cell BK109.out 1).trans rfl
                                have hcz90_2 : wc.cell? ⟨gb109, 2, none⟩ = some (.bool a0_2) := (blk_cell BK109.out 2).trans rfl
                                have hcz90_3 : wc.cell? ⟨gb109, 3, none⟩ = some (.string a0_3) := (blk_cell BK109.out 3).trans rfl
                                have hcz90_4 : wc.cell? ⟨gb109, 4, none⟩ = some (.string a0_4) := (blk_cell BK109.out 4).trans rfl
                                have hcz90_5 : wc.cell? ⟨gb109, 5, none⟩ = some (.string a0_5) := (blk_cell BK109.out 5).trans rfl
                                have hcz90_6 : wc.cell? ⟨gb109, 6, none⟩ = some (.int .i64 a0_6) := (blk_cell BK109.out 6).trans rfl
                                have hcz90_7 : wc.cell? ⟨gb109, 7, none⟩ = some (.int .i64 a0_7) := (blk_cell BK109.out 7).trans rfl
                                have hfz90_0 := blk_frozen BK109.out 0
                                have hfz90_1 := blk_frozen BK109.out 1
                                have hfz90_2 := blk_frozen BK109.out 2
                                have hfz90_3 := blk_frozen BK109.out 3
                                have hfz90_4 := blk_frozen BK109.out 4
                                have hfz90_5 := blk_frozen BK109.out 5
                                have hfz90_6 := blk_frozen BK109.out 6
                                have hfz90_7 := blk_frozen BK109.out 7
                                go_wp2
                                go_ret
                                exact ⟨by first | rfl | (simp [errW_none, errW_some] <;> rfl) | (simp [*, errW_none, errW_some] <;> rfl), by repeat (first | (with_reducible first | exact HB.out | apply below_alloc | apply pw_below_drewN | apply below_drew1 | refine below_set ?_ GE109.out) | exact HB.out)⟩
                            · as_aux_lemma =>
                              rw [if_neg c87] at H
                              have c87b0 : decide (1 ≤ a0_7) = false := decide_eq_false c87
                              clear c87
                              obtain rfl := Option.some.inj H
                              have hcz91_0 : wc.cell? ⟨gb109, 0, none⟩ = some (.int .i64 a0_0) := (blk_cell BK109.out 0).trans rfl
                              have hcz91_1 : wc.cell? ⟨gb109, 1, none⟩ = some (.int .i64 a0_1) := (blk_cell BK109.out 1).trans rfl
                              have hcz91_2 : wc.cell? ⟨gb109, 2, none⟩ = some (.bool a0_2) := (blk_cell BK109.out 2).trans rfl
                              have hcz91_3 : wc.cell? ⟨gb109, 3, none⟩ = some (.string a0_3) := (blk_cell BK109.out 3).trans rfl
                              have hcz91_4 : wc.cell? ⟨gb109, 4, none⟩ = some (.string a0_4) := (blk_cell BK109.out 4).trans rfl
                              have hcz91_5 : wc.cell? ⟨gb109, 5, none⟩ = some (.string a0_5) := (blk_cell BK109.out 5).trans rfl
                              have hcz91_6 : wc.cell? ⟨gb109, 6, none⟩ = some (.int .i64 a0_6) := (blk_cell BK109.out 6).trans rfl
                              have hcz91_7 : wc.cell? ⟨gb109, 7, none⟩ = some (.int .i64 a0_7) := (blk_cell BK109.out 7).trans rfl
                              have hfz91_0 := blk_frozen BK109.out 0
                              have hfz91_1 := blk_frozen BK109.out 1
                              have hfz91_2 := blk_frozen BK109.out 2
                              have hfz91_3 := blk_frozen BK109.out 3
                              have hfz91_4 := blk_frozen BK109.out 4
                              have hfz91_5 := blk_frozen BK109.out 5
                              have hfz91_6 := blk_frozen BK109.out 6
                              have hfz91_7 := blk_frozen BK109.out 7
                              go_wp2
                              go_ret
                              exact ⟨by first | rfl | (simp [errW_none, errW_some] <;> rfl) | (simp [*, errW_none, errW_some] <;> rfl), by repeat (first | (with_reducible first | exact HB.out | apply below_alloc | apply pw_below_drewN | apply below_drew1 | refine below_set ?_ GE109.out) | exact HB.out)⟩
                          · as_aux_lemma =>
                            rw [if_neg c86] at H
                            have c86b0 : (a0_0 == 10) = false := beq_eq_false_iff_ne.mpr c86
                            have c86b1 : (a0_0 != 10) = true := bne_iff_ne.mpr c86
                            by_cases c92 : a0_0 = 6
                            · as_aux_lemma =>
                              rw [if_pos c92] at H
                              have c92b0 : (a0_0 == 6) = true := beq_iff_eq.mpr c92
                              have c92b1 : (a0_0 != 6) = false := bne_eq_false_iff_eq.mpr c92
                              clear c92
                              by_cases c93 : a0_3.toList = ([] : List UInt8)
                              · as_aux_lemma =>
                                rw [if_pos c93] at H
                                have c93b14 : a0_3.toList.isEmpty = true := by rw [c93]; rfl
                                try rw [c93b14]
                                have c93b0 : (a0_3.toList == ([] : List UInt8)) = true := beq_iff_eq.mpr c93
                                have c93b1 : (a0_3.toList != ([] : List UInt8)) = false := bne_eq_false_iff_eq.mpr c93
                                clear c93
                                obtain rfl := Option.some.inj H
                                have hcz94_0 : wc.cell? ⟨gb109, 0, none⟩ = some (.int .i64 a0_0) := (blk_cell BK109.out 0).trans rfl
                                have hcz94_1 : wc.cell? ⟨gb109, 1, none⟩ = some (.int .i64 a0_1) := (blk_cell BK109.out 1).trans rfl
                                have hcz94_2 : wc.cell? ⟨gb109, 2, none⟩ = some (.bool a0_2) := (blk_cell BK109.out 2).trans rfl
                                have hcz94_3 : wc.cell? ⟨gb109, 3, none⟩ = some (.string a0_3) := (blk_cell BK109.out 3).trans rfl
                                have hcz94_4 : wc.cell? ⟨gb109, 4, none⟩ = some (.string a0_4) := (blk_cell BK109.out 4).trans rfl
                                have hcz94_5 : wc.cell? ⟨gb109, 5, none⟩ = some (.string a0_5) := (blk_cell BK109.out 5).trans rfl
                                have hcz94_6 : wc.cell? ⟨gb109, 6, none⟩ = some (.int .i64 a0_6) := (blk_cell BK109.out 6).trans rfl
                                have hcz94_7 : wc.cell? ⟨gb109, 7, none⟩ = some (.int .i64 a0_7) := (blk_cell BK109.out 7).trans rfl
                                have hfz94_0 := blk_frozen BK109.out 0
                                have hfz94_1 := blk_frozen BK109.out 1
                                have hfz94_2 := blk_frozen BK109.out 2
                                have hfz94_3 := blk_frozen BK109.out 3
                                have hfz94_4 := blk_frozen BK109.out 4
                                have hfz94_5 := blk_frozen BK109.out 5
                                have hfz94_6 := blk_frozen BK109.out 6
                                have hfz94_7 := blk_frozen BK109.out 7
                                go_wp2
                                go_ret
                                exact ⟨by first | rfl | (simp [errW_none, errW_some] <;> rfl) | (simp [*, errW_none, errW_some] <;> rfl), by repeat (first | (with_reducible first | exact HB.out | apply below_alloc | apply pw_below_drewN | apply below_drew1 | refine below_set ?_ GE109.out) | exact HB.out)⟩
                              · as_aux_lemma =>
                                rw [if_neg c93] at H
                                have c93b14 : a0_3.toList.isEmpty = false := by simpa using c93
                                try rw [c93b14]
                                have c93b0 : (a0_3.toList == ([] : List UInt8)) = false := beq_eq_false_iff_ne.mpr c93
                                have c93b1 : (a0_3.toList != ([] : List UInt8)) = true := bne_iff_ne.mpr c93
                                replace H := Option.bind_eq_some_iff.mp H
                                obtain ⟨t110, A950, H⟩ := H
                                replace H : (if t110 = true then ((spec_l09Name.f kj22 a0_4).bind fun t111 => (if t111 = true then (if (a0_5.size : Int) > 120 then (some false) else (if a0_7 = 0 then (some (a0_6 == 0)) else (some false))) else (some false))) else (some false)) = some r := H
                                have A95 := Aside0.mk A950
                                clear A950
                                by_cases c96 : t110 = true
                                · subst c96
                                  have H1 : ((spec_l09Name.f kj22 a0_4).bind fun t111 => (if t111 = true then (if (a0_5.size : Int) > 120 then (some false) else (if a0_7 = 0 then (some (a0_6 == 0)) else (some false))) else (some false))) = some r := by rw [if_pos rfl] at H; exact H
                                  clear H
                                  have H := H1
                                  clear H1
                                  replace H := Option.bind_eq_some_iff.mp H
                                  obtain ⟨t111, A970, H⟩ := H
                                  replace H : (if t111 = true then (if (a0_5.size : Int) > 120 then (some false) else (if a0_7 = 0 then (some (a0_6 == 0)) else (some false))) else (some false)) = some r := H
                                  have A97 := Aside0.mk A970
                                  clear A970
                                  by_cases c98 : t111 = true
                                  · subst c98
                                    have H1 : (if (a0_5.size : Int) > 120 then (some false) else (if a0_7 = 0 then (some (a0_6 == 0)) else (some false))) = some r := by rw [if_pos rfl] at H; exact H
                                    clear H
                                    have H := H1
                                    clear H1
                                    by_cases c99 : (a0_5.size : Int) > 120
                                    · as_aux_lemma =>
                                      rw [if_pos c99] at H
                                      have c99b0 : decide (120 < (a0_5.size : Int)) = true := decide_eq_true c99
                                      have c99b1 : decide (120 < a0_5.size) = true := decide_eq_true (by omega)
                                      clear c99
                                      obtain rfl := Option.some.inj H
                                      have hcz100_0 : wc.cell? ⟨gb109, 0, none⟩ = some (.int .i64 a0_0) := (blk_cell BK109.out 0).trans rfl
                                      have hcz100_1 : wc.cell? ⟨gb109, 1, none⟩ = some (.int .i64 a0_1) := (blk_cell BK109.out 1).trans rfl
                                      have hcz100_2 : wc.cell? ⟨gb109, 2, none⟩ = some (.bool a0_2) := (blk_cell BK109.out 2).trans rfl
                                      have hcz100_3 : wc.cell? ⟨gb109, 3, none⟩ = some (.string a0_3) := (blk_cell BK109.out 3).trans rfl
                                      have hcz100_4 : wc.cell? ⟨gb109, 4, none⟩ = some (.string a0_4) := (blk_cell BK109.out 4).trans rfl
                                      have hcz100_5 : wc.cell? ⟨gb109, 5, none⟩ = some (.string a0_5) := (blk_cell BK109.out 5).trans rfl
                                      have hcz100_6 : wc.cell? ⟨gb109, 6, none⟩ = some (.int .i64 a0_6) := (blk_cell BK109.out 6).trans rfl
                                      have hcz100_7 : wc.cell? ⟨gb109, 7, none⟩ = some (.int .i64 a0_7) := (blk_cell BK109.out 7).trans rfl
                                      have hfz100_0 := blk_frozen BK109.out 0
                                      have hfz100_1 := blk_frozen BK109.out 1
                                      have hfz100_2 := blk_frozen BK109.out 2
                                      have hfz100_3 := blk_frozen BK109.out 3
                                      have hfz100_4 := blk_frozen BK109.out 4
                                      have hfz100_5 := blk_frozen BK109.out 5
                                      have hfz100_6 := blk_frozen BK109.out 6
                                      have hfz100_7 := blk_frozen BK109.out 7
                                      go_wp2_with (first | (go_at_call 36; (with_reducible refine (spec_l09Name.calls kj22 a0_3 true _ A95.out).mono ?_); rintro e w' ⟨rfl, ⟨nd, rfl⟩⟩) | (go_at_call 36; (with_reducible refine (spec_l09Name.calls kj22 a0_4 true _ A97.out).mono ?_); rintro e w' ⟨rfl, ⟨nd, rfl⟩⟩))
                                      go_ret
                                      exact ⟨by first | rfl | (simp [errW_none, errW_some] <;> rfl) | (simp [*, errW_none, errW_some] <;> rfl), by repeat (first | (with_reducible first | exact HB.out | apply below_alloc | apply pw_below_drewN | apply below_drew1 | refine below_set ?_ GE109.out) | exact HB.out)⟩
                                    · as_aux_lemma =>
                                      rw [if_neg c99] at H
                                      have c99b0 : decide (120 < (a0_5.size : Int)) = false := decide_eq_false c99
                                      have c99b1 : decide (120 < a0_5.size) = false := decide_eq_false (by omega)
                                      clear c99
                                      by_cases c101 : a0_7 = 0
                                      · as_aux_lemma =>
                                        rw [if_pos c101] at H
                                        have c101b0 : (a0_7 == 0) = true := beq_iff_eq.mpr c101
                                        have c101b1 : (a0_7 != 0) = false := bne_eq_false_iff_eq.mpr c101
                                        clear c101
                                        obtain rfl := Option.some.inj H
                                        have hcz102_0 : wc.cell? ⟨gb109, 0, none⟩ = some (.int .i64 a0_0) := (blk_cell BK109.out 0).trans rfl
                                        have hcz102_1 : wc.cell? ⟨gb109, 1, none⟩ = some (.int .i64 a0_1) := (blk_cell BK109.out 1).trans rfl
                                        have hcz102_2 : wc.cell? ⟨gb109, 2, none⟩ = some (.bool a0_2) := (blk_cell BK109.out 2).trans rfl
                                        have hcz102_3 : wc.cell? ⟨gb109, 3, none⟩ = some (.string a0_3) := (blk_cell BK109.out 3).trans rfl
                                        have hcz102_4 : wc.cell? ⟨gb109, 4, none⟩ = some (.string a0_4) := (blk_cell BK109.out 4).trans rfl
                                        have hcz102_5 : wc.cell? ⟨gb109, 5, none⟩ = some (.string a0_5) := (blk_cell BK109.out 5).trans rfl
                                        have hcz102_6 : wc.cell? ⟨gb109, 6, none⟩ = some (.int .i64 a0_6) := (blk_cell BK109.out 6).trans rfl
                                        have hcz102_7 : wc.cell? ⟨gb109, 7, none⟩ = some (.int .i64 a0_7) := (blk_cell BK109.out 7).trans rfl
                                        have hfz102_0 := blk_frozen BK109.out 0
                                        have hfz102_1 := blk_frozen BK109.out 1
                                        have hfz102_2 := blk_frozen BK109.out 2
                                        have hfz102_3 := blk_frozen BK109.out 3
                                        have hfz102_4 := blk_frozen BK109.out 4
                                        have hfz102_5 := blk_frozen BK109.out 5
                                        have hfz102_6 := blk_frozen BK109.out 6
                                        have hfz102_7 := blk_frozen BK109.out 7
                                        go_wp2_with (first | (go_at_call 36; (with_reducible refine (spec_l09Name.calls kj22 a0_3 true _ A95.out).mono ?_); rintro e w' ⟨rfl, ⟨nd, rfl⟩⟩) | (go_at_call 36; (with_reducible refine (spec_l09Name.calls kj22 a0_4 true _ A97.out).mono ?_); rintro e w' ⟨rfl, ⟨nd, rfl⟩⟩))
                                        go_ret
                                        exact ⟨by first | rfl | (simp [errW_none, errW_some] <;> rfl) | (simp [*, errW_none, errW_some] <;> rfl), by repeat (first | (with_reducible first | exact HB.out | apply below_alloc | apply pw_below_drewN | apply below_drew1 | refine below_set ?_ GE109.out) | exact HB.out)⟩
                                      · as_aux_lemma =>
                                        rw [if_neg c101] at H
                                        have c101b0 : (a0_7 == 0) = false := beq_eq_false_iff_ne.mpr c101
                                        have c101b1 : (a0_7 != 0) = true := bne_iff_ne.mpr c101
                                        obtain rfl := Option.some.inj H
                                        have hcz103_0 : wc.cell? ⟨gb109, 0, none⟩ = some (.int .i64 a0_0) := (blk_cell BK109.out 0).trans rfl
                                        have hcz103_1 : wc.cell? ⟨gb109, 1, none⟩ = some (.int .i64 a0_1) := (blk_cell BK109.out 1).trans rfl
                                        have hcz103_2 : wc.cell? ⟨gb109, 2, none⟩ = some (.bool a0_2) := (blk_cell BK109.out 2).trans rfl
                                        have hcz103_3 : wc.cell? ⟨gb109, 3, none⟩ = some (.string a0_3) := (blk_cell BK109.out 3).trans rfl
                                        have hcz103_4 : wc.cell? ⟨gb109, 4, none⟩ = some (.string a0_4) := (blk_cell BK109.out 4).trans rfl
                                        have hcz103_5 : wc.cell? ⟨gb109, 5, none⟩ = some (.string a0_5) := (blk_cell BK109.out 5).trans rfl
                                        have hcz103_6 : wc.cell? ⟨gb109, 6, none⟩ = some (.int .i64 a0_6) := (blk_cell BK109.out 6).trans rfl
                                        have hcz103_7 : wc.cell? ⟨gb109, 7, none⟩ = some (.int .i64 a0_7) := (blk_cell BK109.out 7).trans rfl
                                        have hfz103_0 := blk_frozen BK109.out 0
                                        have hfz103_1 := blk_frozen BK109.out 1
                                        have hfz103_2 := blk_frozen BK109.out 2
                                        have hfz103_3 := blk_frozen BK109.out 3
                                        have hfz103_4 := blk_frozen BK109.out 4
                                        have hfz103_5 := blk_frozen BK109.out 5
                                        have hfz103_6 := blk_frozen BK109.out 6
                                        have hfz103_7 := blk_frozen BK109.out 7
                                        go_wp2_with (first | (go_at_call 36; (with_reducible refine (spec_l09Name.calls kj22 a0_3 true _ A95.out).mono ?_); rintro e w' ⟨rfl, ⟨nd, rfl⟩⟩) | (go_at_call 36; (with_reducible refine (spec_l09Name.calls kj22 a0_4 true _ A97.out).mono ?_); rintro e w' ⟨rfl, ⟨nd, rfl⟩⟩))
                                        go_ret
                                        exact ⟨by first | rfl | (simp [errW_none, errW_some] <;> rfl) | (simp [*, errW_none, errW_some] <;> rfl), by repeat (first | (with_reducible first | exact HB.out | apply below_alloc | apply pw_below_drewN | apply below_drew1 | refine below_set ?_ GE109.out) | exact HB.out)⟩
                                  · replace c98 := Bool.eq_false_iff.mpr c98
                                    subst c98
                                    have H1 : (some false) = some r := by rw [if_neg (show ¬ (false = true) by decide)] at H; exact H
                                    clear H
                                    have H := H1
                                    clear H1
                                    obtain rfl := Option.some.inj H
                                    have hcz104_0 : wc.cell? ⟨gb109, 0, none⟩ = some (.int .i64 a0_0) := (blk_cell BK109.out 0).trans rfl
                                    have hcz104_1 : wc.cell? ⟨gb109, 1, none⟩ = some (.int .i64 a0_1) := (blk_cell BK109.out 1).trans rfl
                                    have hcz104_2 : wc.cell? ⟨gb109, 2, none⟩ = some (.bool a0_2) := (blk_cell BK109.out 2).trans rfl
                                    have hcz104_3 : wc.cell? ⟨gb109, 3, none⟩ = some (.string a0_3) := (blk_cell BK109.out 3).trans rfl
                                    have hcz104_4 : wc.cell? ⟨gb109, 4, none⟩ = some (.string a0_4) := (blk_cell BK109.out 4).trans rfl
                                    have hcz104_5 : wc.cell? ⟨gb109, 5, none⟩ = some (.string a0_5) := (blk_cell BK109.out 5).trans rfl
                                    have hcz104_6 : wc.cell? ⟨gb109, 6, none⟩ = some (.int .i64 a0_6) := (blk_cell BK109.out 6).trans rfl
                                    have hcz104_7 : wc.cell? ⟨gb109, 7, none⟩ = some (.int .i64 a0_7) := (blk_cell BK109.out 7).trans rfl
                                    have hfz104_0 := blk_frozen BK109.out 0
                                    have hfz104_1 := blk_frozen BK109.out 1
                                    have hfz104_2 := blk_frozen BK109.out 2
                                    have hfz104_3 := blk_frozen BK109.out 3
                                    have hfz104_4 := blk_frozen BK109.out 4
                                    have hfz104_5 := blk_frozen BK109.out 5
                                    have hfz104_6 := blk_frozen BK109.out 6
                                    have hfz104_7 := blk_frozen BK109.out 7
                                    go_wp2_with (first | (go_at_call 36; (with_reducible refine (spec_l09Name.calls kj22 a0_3 true _ A95.out).mono ?_); rintro e w' ⟨rfl, ⟨nd, rfl⟩⟩) | (go_at_call 36; (with_reducible refine (spec_l09Name.calls kj22 a0_4 false _ A97.out).mono ?_); rintro e w' ⟨rfl, ⟨nd, rfl⟩⟩))
                                    go_ret
                                    exact ⟨by first | rfl | (simp [errW_none, errW_some] <;> rfl) | (simp [*, errW_none, errW_some] <;> rfl), by repeat (first | (with_reducible first | exact HB.out | apply below_alloc | apply pw_below_drewN | apply below_drew1 | refine below_set ?_ GE109.out) | exact HB.out)⟩
                                · replace c96 := Bool.eq_false_iff.mpr c96
                                  subst c96
                                  have H1 : (some false) = some r := by rw [if_neg (show ¬ (false = true) by decide)] at H; exact H
                                  clear H
                                  have H := H1
                                  clear H1
                                  obtain rfl := Option.some.inj H
                                  have hcz105_0 : wc.cell? ⟨gb109, 0, none⟩ = some (.int .i64 a0_0) := (blk_cell BK109.out 0).trans rfl
                                  have hcz105_1 : wc.cell? ⟨gb109, 1, none⟩ = some (.int .i64 a0_1) := (blk_cell BK109.out 1).trans rfl
                                  have hcz105_2 : wc.cell? ⟨gb109, 2, none⟩ = some (.bool a0_2) := (blk_cell BK109.out 2).trans rfl
                                  have hcz105_3 : wc.cell? ⟨gb109, 3, none⟩ = some (.string a0_3) := (blk_cell BK109.out 3).trans rfl
                                  have hcz105_4 : wc.cell? ⟨gb109, 4, none⟩ = some (.string a0_4) := (blk_cell BK109.out 4).trans rfl
                                  have hcz105_5 : wc.cell? ⟨gb109, 5, none⟩ = some (.string a0_5) := (blk_cell BK109.out 5).trans rfl
                                  have hcz105_6 : wc.cell? ⟨gb109, 6, none⟩ = some (.int .i64 a0_6) := (blk_cell BK109.out 6).trans rfl
                                  have hcz105_7 : wc.cell? ⟨gb109, 7, none⟩ = some (.int .i64 a0_7) := (blk_cell BK109.out 7).trans rfl
                                  have hfz105_0 := blk_frozen BK109.out 0
                                  have hfz105_1 := blk_frozen BK109.out 1
                                  have hfz105_2 := blk_frozen BK109.out 2
                                  have hfz105_3 := blk_frozen BK109.out 3
                                  have hfz105_4 := blk_frozen BK109.out 4
                                  have hfz105_5 := blk_frozen BK109.out 5
                                  have hfz105_6 := blk_frozen BK109.out 6
                                  have hfz105_7 := blk_frozen BK109.out 7
                                  go_wp2_with (first | (go_at_call 36; (with_reducible refine (spec_l09Name.calls kj22 a0_3 false _ A95.out).mono ?_); rintro e w' ⟨rfl, ⟨nd, rfl⟩⟩))
                                  go_ret
                                  exact ⟨by first | rfl | (simp [errW_none, errW_some] <;> rfl) | (simp [*, errW_none, errW_some] <;> rfl), by repeat (first | (with_reducible first | exact HB.out | apply below_alloc | apply pw_below_drewN | apply below_drew1 | refine below_set ?_ GE109.out) | exact HB.out)⟩
                            · as_aux_lemma =>
                              rw [if_neg c92] at H
                              have c92b0 : (a0_0 == 6) = false := beq_eq_false_iff_ne.mpr c92
                              have c92b1 : (a0_0 != 6) = true := bne_iff_ne.mpr c92
                              replace H := Option.bind_eq_some_iff.mp H
                              obtain ⟨t112, A1060, H⟩ := H
                              replace H : (if t112 = true then (if (a0_5.size : Int) > 120 then (some false) else (if a0_7 = 0 then (some (a0_6 == 0)) else (some false))) else (some false)) = some r := H
                              have A106 := Aside0.mk A1060
                              clear A1060
                              by_cases c107 : t112 = true
                              · subst c107
                                have H1 : (if (a0_5.size : Int) > 120 then (some false) else (if a0_7 = 0 then (some (a0_6 == 0)) else (some false))) = some r := by rw [if_pos rfl] at H; exact H
                                clear H
                                have H := H1
                                clear H1
                                by_cases c108 : (a0_5.size : Int) > 120
                                · as_aux_lemma =>
                                  rw [if_pos c108] at H
                                  have c108b0 : decide (120 < (a0_5.size : Int)) = true := decide_eq_true c108
                                  have c108b1 : decide (120 < a0_5.size) = true := decide_eq_true (by omega)
                                  clear c108
                                  obtain rfl := Option.some.inj H
                                  have hcz109_0 : wc.cell? ⟨gb109, 0, none⟩ = some (.int .i64 a0_0) := (blk_cell BK109.out 0).trans rfl
                                  have hcz109_1 : wc.cell? ⟨gb109, 1, none⟩ = some (.int .i64 a0_1) := (blk_cell BK109.out 1).trans rfl
                                  have hcz109_2 : wc.cell? ⟨gb109, 2, none⟩ = some (.bool a0_2) := (blk_cell BK109.out 2).trans rfl
                                  have hcz109_3 : wc.cell? ⟨gb109, 3, none⟩ = some (.string a0_3) := (blk_cell BK109.out 3).trans rfl
                                  have hcz109_4 : wc.cell? ⟨gb109, 4, none⟩ = some (.string a0_4) := (blk_cell BK109.out 4).trans rfl
                                  have hcz109_5 : wc.cell? ⟨gb109, 5, none⟩ = some (.string a0_5) := (blk_cell BK109.out 5).trans rfl
                                  have hcz109_6 : wc.cell? ⟨gb109, 6, none⟩ = some (.int .i64 a0_6) := (blk_cell BK109.out 6).trans rfl
                                  have hcz109_7 : wc.cell? ⟨gb109, 7, none⟩ = some (.int .i64 a0_7) := (blk_cell BK109.out 7).trans rfl
                                  have hfz109_0 := blk_frozen BK109.out 0
                                  have hfz109_1 := blk_frozen BK109.out 1
                                  have hfz109_2 := blk_frozen BK109.out 2
                                  have hfz109_3 := blk_frozen BK109.out 3
                                  have hfz109_4 := blk_frozen BK109.out 4
                                  have hfz109_5 := blk_frozen BK109.out 5
                                  have hfz109_6 := blk_frozen BK109.out 6
                                  have hfz109_7 := blk_frozen BK109.out 7
                                  go_wp2_with (first | (go_at_call 36; (with_reducible refine (spec_l09Name.calls kj22 a0_4 true _ A106.out).mono ?_); rintro e w' ⟨rfl, ⟨nd, rfl⟩⟩))
                                  go_ret
                                  exact ⟨by first | rfl | (simp [errW_none, errW_some] <;> rfl) | (simp [*, errW_none, errW_some] <;> rfl), by repeat (first | (with_reducible first | exact HB.out | apply below_alloc | apply pw_below_drewN | apply below_drew1 | refine below_set ?_ GE109.out) | exact HB.out)⟩
                                · as_aux_lemma =>
                                  rw [if_neg c108] at H
                                  have c108b0 : decide (120 < (a0_5.size : Int)) = false := decide_eq_false c108
                                  have c108b1 : decide (120 < a0_5.size) = false := decide_eq_false (by omega)
                                  clear c108
                                  by_cases c110 : a0_7 = 0
                                  · as_aux_lemma =>
                                    rw [if_pos c110] at H
                                    have c110b0 : (a0_7 == 0) = true := beq_iff_eq.mpr c110
                                    have c110b1 : (a0_7 != 0) = false := bne_eq_false_iff_eq.mpr c110
                                    clear c110
                                    obtain rfl := Option.some.inj H
                                    have hcz111_0 : wc.cell? ⟨gb109, 0, none⟩ = some (.int .i64 a0_0) := (blk_cell BK109.out 0).trans rfl
                                    have hcz111_1 : wc.cell? ⟨gb109, 1, none⟩ = some (.int .i64 a0_1) := (blk_cell BK109.out 1).trans rfl
                                    have hcz111_2 : wc.cell? ⟨gb109, 2, none⟩ = some (.bool a0_2) := (blk_cell BK109.out 2).trans rfl
                                    have hcz111_3 : wc.cell? ⟨gb109, 3, none⟩ = some (.string a0_3) := (blk_cell BK109.out 3).trans rfl
                                    have hcz111_4 : wc.cell? ⟨gb109, 4, none⟩ = some (.string a0_4) := (blk_cell BK109.out 4).trans rfl
                                    have hcz111_5 : wc.cell? ⟨gb109, 5, none⟩ = some (.string a0_5) := (blk_cell BK109.out 5).trans rfl
                                    have hcz111_6 : wc.cell? ⟨gb109, 6, none⟩ = some (.int .i64 a0_6) := (blk_cell BK109.out 6).trans rfl
                                    have hcz111_7 : wc.cell? ⟨gb109, 7, none⟩ = some (.int .i64 a0_7) := (blk_cell BK109.out 7).trans rfl
                                    have hfz111_0 := blk_frozen BK109.out 0
                                    have hfz111_1 := blk_frozen BK109.out 1
                                    have hfz111_2 := blk_frozen BK109.out 2
                                    have hfz111_3 := blk_frozen BK109.out 3
                                    have hfz111_4 := blk_frozen BK109.out 4
                                    have hfz111_5 := blk_frozen BK109.out 5
                                    have hfz111_6 := blk_frozen BK109.out 6
                                    have hfz111_7 := blk_frozen BK109.out 7
                                    go_wp2_with (first | (go_at_call 36; (with_reducible refine (spec_l09Name.calls kj22 a0_4 true _ A106.out).mono ?_); rintro e w' ⟨rfl, ⟨nd, rfl⟩⟩))
                                    go_ret
                                    exact ⟨by first | rfl | (simp [errW_none, errW_some] <;> rfl) | (simp [*, errW_none, errW_some] <;> rfl), by repeat (first | (with_reducible first | exact HB.out | apply below_alloc | apply pw_below_drewN | apply below_drew1 | refine below_set ?_ GE109.out) | exact HB.out)⟩
                                  · as_aux_lemma =>
                                    rw [if_neg c110] at H
                                    have c110b0 : (a0_7 == 0) = false := beq_eq_false_iff_ne.mpr c110
                                    have c110b1 : (a0_7 != 0) = true := bne_iff_ne.mpr c110
                                    obtain rfl := Option.some.inj H
                                    have hcz112_0 : wc.cell? ⟨gb109, 0, none⟩ = some (.int .i64 a0_0) := (blk_cell BK109.out 0).trans rfl
                                    have hcz112_1 : wc.cell? ⟨gb109, 1, none⟩ = some (.int .i64 a0_1) := (blk_cell BK109.out 1).trans rfl
                                    have hcz112_2 : wc.cell? ⟨gb109, 2, none⟩ = some (.bool a0_2) := (blk_cell BK109.out 2).trans rfl
                                    have hcz112_3 : wc.cell? ⟨gb109, 3, none⟩ = some (.string a0_3) := (blk_cell BK109.out 3).trans rfl
                                    have hcz112_4 : wc.cell? ⟨gb109, 4, none⟩ = some (.string a0_4) := (blk_cell BK109.out 4).trans rfl
                                    have hcz112_5 : wc.cell? ⟨gb109, 5, none⟩ = some (.string a0_5) := (blk_cell BK109.out 5).trans rfl
                                    have hcz112_6 : wc.cell? ⟨gb109, 6, none⟩ = some (.int .i64 a0_6) := (blk_cell BK109.out 6).trans rfl
                                    have hcz112_7 : wc.cell? ⟨gb109, 7, none⟩ = some (.int .i64 a0_7) := (blk_cell BK109.out 7).trans rfl
                                    have hfz112_0 := blk_frozen BK109.out 0
                                    have hfz112_1 := blk_frozen BK109.out 1
                                    have hfz112_2 := blk_frozen BK109.out 2
                                    have hfz112_3 := blk_frozen BK109.out 3
                                    have hfz112_4 := blk_frozen BK109.out 4
                                    have hfz112_5 := blk_frozen BK109.out 5
                                    have hfz112_6 := blk_frozen BK109.out 6
                                    have hfz112_7 := blk_frozen BK109.out 7
                                    go_wp2_with (first | (go_at_call 36; (with_reducible refine (spec_l09Name.calls kj22 a0_4 true _ A106.out).mono ?_); rintro e w' ⟨rfl, ⟨nd, rfl⟩⟩))
                                    go_ret
                                    exact ⟨by first | rfl | (simp [errW_none, errW_some] <;> rfl) | (simp [*, errW_none, errW_some] <;> rfl), by repeat (first | (with_reducible first | exact HB.out | apply below_alloc | apply pw_below_drewN | apply below_drew1 | refine below_set ?_ GE109.out) | exact HB.out)⟩
                              · replace c107 := Bool.eq_false_iff.mpr c107
                                subst c107
                                have H1 : (some false) = some r := by rw [if_neg (show ¬ (false = true) by decide)] at H; exact H
                                clear H
                                have H := H1
                                clear H1
                                obtain rfl := Option.some.inj H
                                have hcz113_0 : wc.cell? ⟨gb109, 0, none⟩ = some (.int .i64 a0_0) := (blk_cell BK109.out 0).trans rfl
                                have hcz113_1 : wc.cell? ⟨gb109, 1, none⟩ = some (.int .i64 a0_1) := (blk_cell BK109.out 1).trans rfl
                                have hcz113_2 : wc.cell? ⟨gb109, 2, none⟩ = some (.bool a0_2) := (blk_cell BK109.out 2).trans rfl
                                have hcz113_3 : wc.cell? ⟨gb109, 3, none⟩ = some (.string a0_3) := (blk_cell BK109.out 3).trans rfl
                                have hcz113_4 : wc.cell? ⟨gb109, 4, none⟩ = some (.string a0_4) := (blk_cell BK109.out 4).trans rfl
                                have hcz113_5 : wc.cell? ⟨gb109, 5, none⟩ = some (.string a0_5) := (blk_cell BK109.out 5).trans rfl
                                have hcz113_6 : wc.cell? ⟨gb109, 6, none⟩ = some (.int .i64 a0_6) := (blk_cell BK109.out 6).trans rfl
                                have hcz113_7 : wc.cell? ⟨gb109, 7, none⟩ = some (.int .i64 a0_7) := (blk_cell BK109.out 7).trans rfl
                                have hfz113_0 := blk_frozen BK109.out 0
                                have hfz113_1 := blk_frozen BK109.out 1
                                have hfz113_2 := blk_frozen BK109.out 2
                                have hfz113_3 := blk_frozen BK109.out 3
                                have hfz113_4 := blk_frozen BK109.out 4
                                have hfz113_5 := blk_frozen BK109.out 5
                                have hfz113_6 := blk_frozen BK109.out 6
                                have hfz113_7 := blk_frozen BK109.out 7
                                go_wp2_with (first | (go_at_call 36; (with_reducible refine (spec_l09Name.calls kj22 a0_4 false _ A106.out).mono ?_); rintro e w' ⟨rfl, ⟨nd, rfl⟩⟩))
                                go_ret
                                exact ⟨by first | rfl | (simp [errW_none, errW_some] <;> rfl) | (simp [*, errW_none, errW_some] <;> rfl), by repeat (first | (with_reducible first | exact HB.out | apply below_alloc | apply pw_below_drewN | apply below_drew1 | refine below_set ?_ GE109.out) | exact HB.out)⟩

end Go.Proofs.Ytacmlggiklkbiaa.PFnExactEventText
