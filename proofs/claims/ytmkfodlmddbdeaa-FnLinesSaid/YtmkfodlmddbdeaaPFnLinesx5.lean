-- Written by a program of this session, out of the translation.
import Derived.Test.YtmkfodlmddbdeaaPFnLinesx0
import Derived.Test.YtmkfodlmddbdeaaPFnLinesx1
import Derived.Test.YtmkfodlmddbdeaaPFnLinesx2
import Derived.Test.YtmkfodlmddbdeaaPFnLinesx4
namespace Go.Proofs.Ytmkfodlmddbdeaa.PFnLines
open Go.RowKit Go.Proofs.YtmkfodlmddbdeaaW.PrintWords Go.Proofs.YtmkfodlmddbdeaaW.PrintLast Go.Proofs.YtmkfodlmddbdeaaW.PrintMore
attribute [local go_sem] max2_int min2_int max_two min_two max_three min_three max_four min_four   -- for this text's walks alone
set_option linter.unusedVariables false
set_option linter.unusedSimpArgs false

/-! ### spec_l12Draw: function 26 -/
def spec_l12Draw.l0 : Nat → ByteArray → Int → List Int → Int → Int → Option (ByteArray × Int × Int)
  | 0, _, _, _, _, _ => none
  | k + 1, x3, x4, x1000, x1001, x1002 => if x4 > 0 then ((spec_l01Below.f x1000 x1001 x1002 5).bind fun bt337 => (if bt337.1 < 3 then ((spec_l11Draw.f k x1000 bt337.2.1 bt337.2.2 0 3).bind fun bt340 => (if x3.size + bt340.1.size ≤ 9223372036854775807 then ((spec_l01Of.f x1000 bt340.2.1 bt340.2.2 (([(⟨#[45, 45, 45, 10]⟩ : ByteArray), (⟨#[46, 46, 46, 10]⟩ : ByteArray), (⟨#[45, 45, 45, 10]⟩ : ByteArray), (⟨#[46, 46, 46, 32, 35, 32, 114, 10, 45, 45, 45, 10]⟩ : ByteArray), (⟨#[46, 46, 46, 10, 37, 84, 65, 71, 32, 33, 104, 33, 32, 120, 45, 10, 45, 45, 45, 10]⟩ : ByteArray)] : List ByteArray))).bind fun bt346 => (if (x3 ++ bt340.1).size + bt346.1.size ≤ 9223372036854775807 then (spec_l12Draw.l0 k ((x3 ++ bt340.1) ++ bt346.1) (wrap64 (x4 - 1)) x1000 bt346.2.1 bt346.2.2) else (none))) else (none))) else (if bt337.1 = 3 then (if x3.size + 4 ≤ 9223372036854775807 then ((spec_l11Leaf.f k x1000 bt337.2.1 bt337.2.2).bind fun bt349 => (if (x3 ++ (⟨#[45, 45, 45, 32]⟩ : ByteArray)).size + bt349.1.size ≤ 9223372036854775807 then (if ((x3 ++ (⟨#[45, 45, 45, 32]⟩ : ByteArray)) ++ bt349.1).size + 1 ≤ 9223372036854775807 then ((spec_l01Of.f x1000 bt349.2.1 bt349.2.2 (([(⟨#[45, 45, 45, 10]⟩ : ByteArray), (⟨#[46, 46, 46, 10]⟩ : ByteArray), (⟨#[45, 45, 45, 10]⟩ : ByteArray), (⟨#[46, 46, 46, 32, 35, 32, 114, 10, 45, 45, 45, 10]⟩ : ByteArray), (⟨#[46, 46, 46, 10, 37, 84, 65, 71, 32, 33, 104, 33, 32, 120, 45, 10, 45, 45, 45, 10]⟩ : ByteArray)] : List ByteArray))).bind fun bt355 => (if (((x3 ++ (⟨#[45, 45, 45, 32]⟩ : ByteArray)) ++ bt349.1) ++ (⟨#[10]⟩ : ByteArray)).size + bt355.1.size ≤ 9223372036854775807 then (spec_l12Draw.l0 k ((((x3 ++ (⟨#[45, 45, 45, 32]⟩ : ByteArray)) ++ bt349.1) ++ (⟨#[10]⟩ : ByteArray)) ++ bt355.1) (wrap64 (x4 - 1)) x1000 bt355.2.1 bt355.2.2) else (none))) else (none)) else (none))) else (none)) else ((spec_l10Draw.f k x1000 bt337.2.1 bt337.2.2 2).bind fun bt358 => (if x3.size + bt358.1.size ≤ 9223372036854775807 then (if (x3 ++ bt358.1).size + 1 ≤ 9223372036854775807 then ((spec_l01Of.f x1000 bt358.2.1 bt358.2.2 (([(⟨#[45, 45, 45, 10]⟩ : ByteArray), (⟨#[46, 46, 46, 10]⟩ : ByteArray), (⟨#[45, 45, 45, 10]⟩ : ByteArray), (⟨#[46, 46, 46, 32, 35, 32, 114, 10, 45, 45, 45, 10]⟩ : ByteArray), (⟨#[46, 46, 46, 10, 37, 84, 65, 71, 32, 33, 104, 33, 32, 120, 45, 10, 45, 45, 45, 10]⟩ : ByteArray)] : List ByteArray))).bind fun bt364 => (if ((x3 ++ bt358.1) ++ (⟨#[10]⟩ : ByteArray)).size + bt364.1.size ≤ 9223372036854775807 then (spec_l12Draw.l0 k (((x3 ++ bt358.1) ++ (⟨#[10]⟩ : ByteArray)) ++ bt364.1) (wrap64 (x4 - 1)) x1000 bt364.2.1 bt364.2.2) else (none))) else (none)) else (none)))))) else ((spec_l11Draw.f k x1000 x1001 x1002 0 2).bind fun bt334 => (if x3.size + bt334.1.size ≤ 9223372036854775807 then (some (x3 ++ bt334.1, bt334.2.1, bt334.2.2)) else (none)))
def spec_l12Draw.f (k : Nat) (s0_0 : List Int) (s0_1 : Int) (s0_2 : Int) : Option (ByteArray × Int × Int) := (spec_l01Of.f s0_0 s0_1 s0_2 (([(⟨#[]⟩ : ByteArray), (⟨#[]⟩ : ByteArray), (⟨#[]⟩ : ByteArray), (⟨#[35, 32, 114, 10]⟩ : ByteArray), (⟨#[10]⟩ : ByteArray), (⟨#[37, 89, 65, 77, 76, 32, 49, 46, 50, 10, 45, 45, 45, 10]⟩ : ByteArray), (⟨#[37, 84, 65, 71, 32, 33, 104, 33, 32, 116, 97, 103, 58, 104, 44, 10, 45, 45, 45, 32, 35, 32, 114, 10]⟩ : ByteArray), (⟨#[45, 45, 45, 10]⟩ : ByteArray)] : List ByteArray))).bind fun bt328 => ((spec_l01Below.f s0_0 bt328.2.1 bt328.2.2 3).bind fun bt331 => (spec_l12Draw.l0 k bt328.1 bt331.1 s0_0 bt331.2.1 bt331.2.2))
theorem spec_l12Draw.mono_l : ∀ k, (∀ y0 y1 y2 y3 y4, LeO (spec_l12Draw.l0 k y0 y1 y2 y3 y4) (spec_l12Draw.l0 (k + 1) y0 y1 y2 y3 y4))
  | 0 => fun _ _ _ _ _ r h => by simp [spec_l12Draw.l0] at h
  | k + 1 => by
    have ih0 := spec_l12Draw.mono_l k
    · intro y0 y1 y2 y3 y4
      unfold spec_l12Draw.l0
      repeat' first
      | (with_reducible exact ih0 _ _ _ _ _)
      | (with_reducible exact spec_l10Draw.mono _ _ _ _ _)
      | (with_reducible exact spec_l11Draw.mono _ _ _ _ _ _)
      | (with_reducible exact spec_l11Leaf.mono _ _ _ _)
      | (with_reducible exact LeO.refl _)
      | (with_reducible exact LeO.none _)
      | (with_reducible refine LeO.ite ?_ ?_)
      | (with_reducible refine LeO.bind ?_ (fun _ => ?_))
      | exact ih0 _ _ _ _ _
      | exact spec_l10Draw.mono _ _ _ _ _
      | exact spec_l11Draw.mono _ _ _ _ _ _
      | exact spec_l11Leaf.mono _ _ _ _
      | exact LeO.none _
      | refine LeO.ite ?_ ?_
      | refine LeO.bind ?_ (fun _ => ?_)
theorem spec_l12Draw.mono : ∀ a0 a1 a2 k, LeO (spec_l12Draw.f k a0 a1 a2) (spec_l12Draw.f (k + 1) a0 a1 a2) := by
  intro a0 a1 a2 k
  have ih0 := spec_l12Draw.mono_l k
  unfold spec_l12Draw.f
  repeat' first
      | (with_reducible exact ih0 _ _ _ _ _)
      | (with_reducible exact spec_l10Draw.mono _ _ _ _ _)
      | (with_reducible exact spec_l11Draw.mono _ _ _ _ _ _)
      | (with_reducible exact spec_l11Leaf.mono _ _ _ _)
      | (with_reducible exact LeO.refl _)
      | (with_reducible exact LeO.none _)
      | (with_reducible refine LeO.ite ?_ ?_)
      | (with_reducible refine LeO.bind ?_ (fun _ => ?_))
      | exact ih0 _ _ _ _ _
      | exact spec_l10Draw.mono _ _ _ _ _
      | exact spec_l11Draw.mono _ _ _ _ _ _
      | exact spec_l11Leaf.mono _ _ _ _
      | exact LeO.none _
      | refine LeO.ite ?_ ?_
      | refine LeO.bind ?_ (fun _ => ?_)
set_option maxHeartbeats 8000000 in
set_option maxRecDepth 100000 in
theorem spec_l12Draw.calls (k : Nat) (g : Nat) (s0_0 : List Int) (s0_1 : Int) (s0_2 : Int) (r1 : ByteArray) (r2 : Int) (r3 : Int) (w0 w : World) (hI : IsS35 w0 w g s0_0 s0_1 s0_2) (hB : Below w0.heap.size w0 w) (h : spec_l12Draw.f k s0_0 s0_1 s0_2 = some (r1, r2, r3)) :
    Calls Try.prog 26 #[.pointer (some ⟨g, 0, none⟩)] w fun e w' => e = .returned (.string r1) ∧ IsS35 w0 w' g s0_0 r2 r3 ∧ Below w0.heap.size w0 w' ∧ KeepBut w w' g none := by
  have HI0 := Aside0.mk hI
  have HK := Aside0.mk (KeepBut.refl w g none)
  have HL := Aside0.mk hB.size
  clear hI
  have HW0 := Aside0.mk hB.size
  have HB := Aside0.mk hB
  clear hB
  have H : ((spec_l01Of.f s0_0 s0_1 s0_2 (([(⟨#[]⟩ : ByteArray), (⟨#[]⟩ : ByteArray), (⟨#[]⟩ : ByteArray), (⟨#[35, 32, 114, 10]⟩ : ByteArray), (⟨#[10]⟩ : ByteArray), (⟨#[37, 89, 65, 77, 76, 32, 49, 46, 50, 10, 45, 45, 45, 10]⟩ : ByteArray), (⟨#[37, 84, 65, 71, 32, 33, 104, 33, 32, 116, 97, 103, 58, 104, 44, 10, 45, 45, 45, 32, 35, 32, 114, 10]⟩ : ByteArray), (⟨#[45, 45, 45, 10]⟩ : ByteArray)] : List ByteArray))).bind fun bt328 => ((spec_l01Below.f s0_0 bt328.2.1 bt328.2.2 3).bind fun bt331 => (spec_l12Draw.l0 k bt328.1 bt331.1 s0_0 bt331.2.1 bt331.2.2))) = some (r1, r2, r3) := h
  clear h
  obtain ⟨y325, hy325⟩ : ∃ y_ : List ByteArray, y_ = (([(⟨#[]⟩ : ByteArray), (⟨#[]⟩ : ByteArray), (⟨#[]⟩ : ByteArray), (⟨#[35, 32, 114, 10]⟩ : ByteArray), (⟨#[10]⟩ : ByteArray), (⟨#[37, 89, 65, 77, 76, 32, 49, 46, 50, 10, 45, 45, 45, 10]⟩ : ByteArray), (⟨#[37, 84, 65, 71, 32, 33, 104, 33, 32, 116, 97, 103, 58, 104, 44, 10, 45, 45, 45, 32, 35, 32, 114, 10]⟩ : ByteArray), (⟨#[45, 45, 45, 10]⟩ : ByteArray)] : List ByteArray)) := ⟨_, rfl⟩
  replace H : ((spec_l01Of.f s0_0 s0_1 s0_2 y325).bind fun bt328 => ((spec_l01Below.f s0_0 bt328.2.1 bt328.2.2 3).bind fun bt331 => (spec_l12Draw.l0 k bt328.1 bt331.1 s0_0 bt331.2.1 bt331.2.2))) = some (r1, r2, r3) := by first | (rw [hy325]; with_reducible exact H) | (have H2_ := (Option.bind_some _ _).symm.trans H; rw [hy325]; with_reducible exact H2_) | (have H2_ := (Option.bind_some _ _).symm.trans H; with_reducible exact H2_) | with_reducible exact H | (rw [hy325]; exact H) | exact H
  have Ny325 := Aside0.mk hy325
  clear hy325
  replace H := Option.bind_eq_some_iff.mp H
  obtain ⟨⟨t328, t329, t330⟩, A20, H⟩ := H
  replace H : ((spec_l01Below.f s0_0 t329 t330 3).bind fun bt331 => (spec_l12Draw.l0 k t328 bt331.1 s0_0 bt331.2.1 bt331.2.2)) = some (r1, r2, r3) := H
  have A2 := Aside0.mk A20
  clear A20
  replace H := Option.bind_eq_some_iff.mp H
  obtain ⟨⟨t331, t332, t333⟩, A30, H⟩ := H
  replace H : (spec_l12Draw.l0 k t328 t331 s0_0 t332 t333) = some (r1, r2, r3) := H
  have A3 := Aside0.mk A30
  clear A30
  have H' := Aside0.mk H
  clear H
  go_enter Try.func26, Try.ntmps26
  go_wp2_with (first | ((with_reducible refine gate_dst (N := 7) rfl ?_); refine Kd.R_lit Kd.string _ 9 ?hg (N := 7) ?hd (xs := ([(⟨#[]⟩ : ByteArray), (⟨#[]⟩ : ByteArray), (⟨#[]⟩ : ByteArray), (⟨#[35, 32, 114, 10]⟩ : ByteArray), (⟨#[10]⟩ : ByteArray), (⟨#[37, 89, 65, 77, 76, 32, 49, 46, 50, 10, 45, 45, 45, 10]⟩ : ByteArray), (⟨#[37, 84, 65, 71, 32, 33, 104, 33, 32, 116, 97, 103, 58, 104, 44, 10, 45, 45, 45, 32, 35, 32, 114, 10]⟩ : ByteArray), (⟨#[45, 45, 45, 10]⟩ : ByteArray)] : List ByteArray)) (inner := [.string (⟨#[]⟩ : ByteArray), .string (⟨#[]⟩ : ByteArray), .string (⟨#[]⟩ : ByteArray), .string (⟨#[35, 32, 114, 10]⟩ : ByteArray), .string (⟨#[10]⟩ : ByteArray), .string (⟨#[37, 89, 65, 77, 76, 32, 49, 46, 50, 10, 45, 45, 45, 10]⟩ : ByteArray), .string (⟨#[37, 84, 65, 71, 32, 33, 104, 33, 32, 116, 97, 103, 58, 104, 44, 10, 45, 45, 45, 32, 35, 32, 114, 10]⟩ : ByteArray), .string (⟨#[45, 45, 45, 10]⟩ : ByteArray)]) (ok := fun _ => True) (okp := fun _ => True) ?hr ?hp (fun _ hk => hk) trivial (Below.refl _ _) (Nat.le_refl _) (by simp) ?_; (case hd => rfl); (case hg => rfl); (case hr => first | (go_simp; done) | (go_simp; rfl)); (case hp => exact (Reps.one (show Kd.M Kd.string _ _ _ (⟨#[]⟩ : ByteArray) [.string (⟨#[]⟩ : ByteArray)] from rfl) (Reps.one (show Kd.M Kd.string _ _ _ (⟨#[]⟩ : ByteArray) [.string (⟨#[]⟩ : ByteArray)] from rfl) (Reps.one (show Kd.M Kd.string _ _ _ (⟨#[]⟩ : ByteArray) [.string (⟨#[]⟩ : ByteArray)] from rfl) (Reps.one (show Kd.M Kd.string _ _ _ (⟨#[35, 32, 114, 10]⟩ : ByteArray) [.string (⟨#[35, 32, 114, 10]⟩ : ByteArray)] from rfl) (Reps.one (show Kd.M Kd.string _ _ _ (⟨#[10]⟩ : ByteArray) [.string (⟨#[10]⟩ : ByteArray)] from rfl) (Reps.one (show Kd.M Kd.string _ _ _ (⟨#[37, 89, 65, 77, 76, 32, 49, 46, 50, 10, 45, 45, 45, 10]⟩ : ByteArray) [.string (⟨#[37, 89, 65, 77, 76, 32, 49, 46, 50, 10, 45, 45, 45, 10]⟩ : ByteArray)] from rfl) (Reps.one (show Kd.M Kd.string _ _ _ (⟨#[37, 84, 65, 71, 32, 33, 104, 33, 32, 116, 97, 103, 58, 104, 44, 10, 45, 45, 45, 32, 35, 32, 114, 10]⟩ : ByteArray) [.string (⟨#[37, 84, 65, 71, 32, 33, 104, 33, 32, 116, 97, 103, 58, 104, 44, 10, 45, 45, 45, 32, 35, 32, 114, 10]⟩ : ByteArray)] from rfl) (Reps.one (show Kd.M Kd.string _ _ _ (⟨#[45, 45, 45, 10]⟩ : ByteArray) [.string (⟨#[45, 45, 45, 10]⟩ : ByteArray)] from rfl) (Reps.none _ _)))))))))); intro v326 w4 ho5 hb hg_ hnew_; clear hg_ hnew_; (first | rw [← Ny325.out] at ho5 | (simp only [Int.reduceToNat] at ho5; rw [← Ny325.out] at ho5)); have n0_ := Aside0.mk (Kd.R_lower ho5 (keep_size (w := w) (g := g) (row := none) (by repeat (first | (with_reducible first | exact HK.out | apply KeepBut.set_ | apply keep_drewN | apply keep_drew | apply keep_alloc) | exact HK.out)))); have n1_ := Aside0.mk (IsS35.below (by repeat (first | (with_reducible first | exact HI0.out | apply IsS35.alloc | apply IsS35.drewN | apply IsS35.drew | apply IsS35.set_1 | apply IsS35.set_2) | exact HI0.out)) hb); have n2_ := Aside0.mk (KeepBut.trans (by repeat (first | (with_reducible first | exact HK.out | apply KeepBut.set_ | apply keep_drewN | apply keep_drew | apply keep_alloc) | exact HK.out)) (KeepBut.of_below hb g none) (.inl rfl)); have n3_ := Aside0.mk (below_step (by repeat (first | (with_reducible first | exact HB.out | apply below_alloc | apply pw_below_drewN | apply below_drew1 | refine below_set ?_ (IsS35.ge HI0.out)) | exact HB.out)) hb); clear HI0; clear HK; clear HB; have HO327 := n0_; have HI0 := n1_; have HK := n2_; have HB := n3_; clear n0_ n1_ n2_ n3_; clear hb ho5; obtain ⟨Ao6, co6, eo6⟩ := Kd.R_slice HO327.out; subst eo6) | ((with_reducible refine gate_callee (f := 28) rfl ?_); refine goesL_ (some 8) rfl rfl Try.func28 (by kernel_rfl) rfl #[.pointer (some ⟨g, 0, none⟩), .slice Ao6 y325.length co6] rfl (by (try simp only [List.map_toArray, List.map_cons, List.map_nil]); first | done | rfl | (simp only [List.length_drop, List.length_take]; rfl)) ?_; (with_reducible refine (spec_l01Of.calls g s0_0 s0_1 s0_2 _ _ y325 t328 t329 t330 w0 _ ?side1 ?side2 ?side3 ?side4 ?side5 A2.out).mono ?_); (case side1 => repeat (first | (with_reducible first | exact HI0.out | apply IsS35.alloc | apply IsS35.drewN | apply IsS35.drew | apply IsS35.set_1 | apply IsS35.set_2) | exact HI0.out)); (case side2 => repeat (first | (with_reducible first | exact HB.out | apply below_alloc | apply pw_below_drewN | apply below_drew1 | refine below_set ?_ (IsS35.ge HI0.out)) | exact HB.out)); (case side3 => repeat (first | exact (Kd.R_reads' HO327.out).2.2 | (with_reducible refine Kd.C_alloc ?_ _) | (with_reducible refine Kd.C_drewN ?_ _) | (with_reducible refine Kd.C_drew ?_))); (case side4 => exact (Kd.R_reads' HO327.out).2.1); (case side5 => exact far_slice (IsS35.own_ne HI0.out HO327.out (by decide))); rintro e w7 ⟨rfl, hi, hb, hk⟩; refine ⟨_, rfl, ?_⟩; have n0_ := Aside0.mk (Kd.R_mono (Kd.R_keep (IsS35.apart (show IsS35 w0 _ g s0_0 s0_1 s0_2 from by repeat (first | (with_reducible first | exact HI0.out | apply IsS35.alloc | apply IsS35.drewN | apply IsS35.drew | apply IsS35.set_1 | apply IsS35.set_2) | exact HI0.out)) (by (with_reducible repeat (first | apply Kd.R_alloc | apply Kd.R_drewN | apply Kd.R_drew)); exact HO327.out) (by decide)) hk (fun _ h => h.2)) (fun _ h => h.1)); have n1_ := Aside0.mk (KeepBut.trans (by repeat (first | (with_reducible first | exact HK.out | apply KeepBut.set_ | apply keep_drewN | apply keep_drew | apply keep_alloc) | exact HK.out)) hk (.inl rfl)); have n2_ := Aside0.mk (hb); have n3_ := Aside0.mk (hi); clear HO327; clear HK; clear HB; clear HI0; have HO327 := n0_; have HK := n1_; have HB := n2_; have HI0 := n3_; clear n0_ n1_ n2_ n3_; (try clear hb); (try clear hb2); (try clear hk); (try clear hi)) | ((with_reducible refine gate_callee (f := 16) rfl ?_); refine goesL_ (some 10) rfl rfl Try.func16 (by kernel_rfl) rfl #[.pointer (some ⟨g, 0, none⟩), .int .i64 3] rfl (by (try simp only [List.map_toArray, List.map_cons, List.map_nil]); first | done | rfl | (simp only [List.length_drop, List.length_take]; rfl)) ?_; (with_reducible refine (spec_l01Below.calls g s0_0 t329 t330 3 t331 t332 t333 w0 _ ?side1 ?side2 A3.out).mono ?_); (case side1 => repeat (first | (with_reducible first | exact HI0.out | apply IsS35.alloc | apply IsS35.drewN | apply IsS35.drew | apply IsS35.set_1 | apply IsS35.set_2) | exact HI0.out)); (case side2 => repeat (first | (with_reducible first | exact HB.out | apply below_alloc | apply pw_below_drewN | apply below_drew1 | refine below_set ?_ (IsS35.ge HI0.out)) | exact HB.out)); rintro e w8 ⟨rfl, hi, hb, hk⟩; refine ⟨_, rfl, ?_⟩; have n0_ := Aside0.mk (Kd.R_mono (Kd.R_keep (IsS35.apart (show IsS35 w0 _ g s0_0 t329 t330 from by repeat (first | (with_reducible first | exact HI0.out | apply IsS35.alloc | apply IsS35.drewN | apply IsS35.drew | apply IsS35.set_1 | apply IsS35.set_2) | exact HI0.out)) (by (with_reducible repeat (first | apply Kd.R_alloc | apply Kd.R_drewN | apply Kd.R_drew)); exact HO327.out) (by decide)) hk (fun _ h => h.2)) (fun _ h => h.1)); have n1_ := Aside0.mk (KeepBut.trans (by repeat (first | (with_reducible first | exact HK.out | apply KeepBut.set_ | apply keep_drewN | apply keep_drew | apply keep_alloc) | exact HK.out)) hk (.inl rfl)); have n2_ := Aside0.mk (hb); have n3_ := Aside0.mk (hi); clear HO327; clear HK; clear HB; clear HI0; have HO327 := n0_; have HK := n1_; have HB := n2_; have HI0 := n3_; clear n0_ n1_ n2_ n3_; (try clear hb); (try clear hb2); (try clear hk); (try clear hi)))
  go_loopg [3, 4] k (fun kq v3 v4 w' => ∃ (x3_1 : ByteArray) (x4_1 : Int) (x1001_1 : Int) (x1002_1 : Int), v3 = .string x3_1 ∧ v4 = .int .i64 x4_1 ∧ Aside0 (spec_l12Draw.l0 kq x3_1 x4_1 s0_0 x1001_1 x1002_1 = some (r1, r2, r3)) ∧ Aside0 (kq ≤ k) ∧ Aside0 (IsS35 w0 w' g s0_0 x1001_1 x1002_1) ∧ Aside0 (KeepBut w w' g none) ∧ Aside0 (Below w0.heap.size w0 w'))
  case atStart => exact ⟨(t328), (t331), (t332), (t333), (by first | rfl | (simp; done) | (simp [*]; done)), (by first | rfl | (simp; done) | (simp [*]; done)), H', ⟨Nat.le_refl _⟩, ⟨by repeat (first | (with_reducible first | exact HI0.out | apply IsS35.alloc | apply IsS35.drewN | apply IsS35.drew | apply IsS35.set_1 | apply IsS35.set_2) | exact HI0.out)⟩, ⟨by repeat (first | (with_reducible first | exact HK.out | apply KeepBut.set_ | apply keep_drewN | apply keep_drew | apply keep_alloc) | exact HK.out)⟩, ⟨by repeat (first | (with_reducible first | exact HB.out | apply below_alloc | apply pw_below_drewN | apply below_drew1 | refine below_set ?_ (IsS35.ge HI0.out)) | exact HB.out)⟩⟩
  case round =>
    clear H'
    try clear c1
    try clear c2
    try clear p2
    obtain ⟨x3_1, x4_1, x1001_1, x1002_1, rfl, rfl, HA, HK1, HI0, HK, HB⟩ := hrel
    cases gk with
    | zero => exact absurd HA.out (by simp [spec_l12Draw.l0])
    | succ k1 =>
      have H := HA.out
      clear HA
      simp only [spec_l12Draw.l0] at H
      by_cases c9 : x4_1 > 0
      · rw [if_pos c9] at H
        have c9b0 : decide (0 < x4_1) = true := decide_eq_true c9
        clear c9
        replace H := Option.bind_eq_some_iff.mp H
        obtain ⟨⟨t337, t338, t339⟩, A100, H⟩ := H
        replace H : (if t337 < 3 then ((spec_l11Draw.f k1 s0_0 t338 t339 0 3).bind fun bt340 => (if x3_1.size + bt340.1.size ≤ 9223372036854775807 then ((spec_l01Of.f s0_0 bt340.2.1 bt340.2.2 (([(⟨#[45, 45, 45, 10]⟩ : ByteArray), (⟨#[46, 46, 46, 10]⟩ : ByteArray), (⟨#[45, 45, 45, 10]⟩ : ByteArray), (⟨#[46, 46, 46, 32, 35, 32, 114, 10, 45, 45, 45, 10]⟩ : ByteArray), (⟨#[46, 46, 46, 10, 37, 84, 65, 71, 32, 33, 104, 33, 32, 120, 45, 10, 45, 45, 45, 10]⟩ : ByteArray)] : List ByteArray))).bind fun bt346 => (if (x3_1 ++ bt340.1).size + bt346.1.size ≤ 9223372036854775807 then (spec_l12Draw.l0 k1 ((x3_1 ++ bt340.1) ++ bt346.1) (wrap64 (x4_1 - 1)) s0_0 bt346.2.1 bt346.2.2) else (none))) else (none))) else (if t337 = 3 then (if x3_1.size + 4 ≤ 9223372036854775807 then ((spec_l11Leaf.f k1 s0_0 t338 t339).bind fun bt349 => (if (x3_1 ++ (⟨#[45, 45, 45, 32]⟩ : ByteArray)).size + bt349.1.size ≤ 9223372036854775807 then (if ((x3_1 ++ (⟨#[45, 45, 45, 32]⟩ : ByteArray)) ++ bt349.1).size + 1 ≤ 9223372036854775807 then ((spec_l01Of.f s0_0 bt349.2.1 bt349.2.2 (([(⟨#[45, 45, 45, 10]⟩ : ByteArray), (⟨#[46, 46, 46, 10]⟩ : ByteArray), (⟨#[45, 45, 45, 10]⟩ : ByteArray), (⟨#[46, 46, 46, 32, 35, 32, 114, 10, 45, 45, 45, 10]⟩ : ByteArray), (⟨#[46, 46, 46, 10, 37, 84, 65, 71, 32, 33, 104, 33, 32, 120, 45, 10, 45, 45, 45, 10]⟩ : ByteArray)] : List ByteArray))).bind fun bt355 => (if (((x3_1 ++ (⟨#[45, 45, 45, 32]⟩ : ByteArray)) ++ bt349.1) ++ (⟨#[10]⟩ : ByteArray)).size + bt355.1.size ≤ 9223372036854775807 then (spec_l12Draw.l0 k1 ((((x3_1 ++ (⟨#[45, 45, 45, 32]⟩ : ByteArray)) ++ bt349.1) ++ (⟨#[10]⟩ : ByteArray)) ++ bt355.1) (wrap64 (x4_1 - 1)) s0_0 bt355.2.1 bt355.2.2) else (none))) else (none)) else (none))) else (none)) else ((spec_l10Draw.f k1 s0_0 t338 t339 2).bind fun bt358 => (if x3_1.size + bt358.1.size ≤ 9223372036854775807 then (if (x3_1 ++ bt358.1).size + 1 ≤ 9223372036854775807 then ((spec_l01Of.f s0_0 bt358.2.1 bt358.2.2 (([(⟨#[45, 45, 45, 10]⟩ : ByteArray), (⟨#[46, 46, 46, 10]⟩ : ByteArray), (⟨#[45, 45, 45, 10]⟩ : ByteArray), (⟨#[46, 46, 46, 32, 35, 32, 114, 10, 45, 45, 45, 10]⟩ : ByteArray), (⟨#[46, 46, 46, 10, 37, 84, 65, 71, 32, 33, 104, 33, 32, 120, 45, 10, 45, 45, 45, 10]⟩ : ByteArray)] : List ByteArray))).bind fun bt364 => (if ((x3_1 ++ bt358.1) ++ (⟨#[10]⟩ : ByteArray)).size + bt364.1.size ≤ 9223372036854775807 then (spec_l12Draw.l0 k1 (((x3_1 ++ bt358.1) ++ (⟨#[10]⟩ : ByteArray)) ++ bt364.1) (wrap64 (x4_1 - 1)) s0_0 bt364.2.1 bt364.2.2) else (none))) else (none)) else (none))))) = some (r1, r2, r3) := H
        have A10 := Aside0.mk A100
        clear A100
        by_cases c11 : t337 < 3
        · rw [if_pos c11] at H
          have c11b0 : decide (t337 < 3) = true := decide_eq_true c11
          clear c11
          replace H := Option.bind_eq_some_iff.mp H
          obtain ⟨⟨t340, t341, t342⟩, A120, H⟩ := H
          replace H : (if x3_1.size + t340.size ≤ 9223372036854775807 then ((spec_l01Of.f s0_0 t341 t342 (([(⟨#[45, 45, 45, 10]⟩ : ByteArray), (⟨#[46, 46, 46, 10]⟩ : ByteArray), (⟨#[45, 45, 45, 10]⟩ : ByteArray), (⟨#[46, 46, 46, 32, 35, 32, 114, 10, 45, 45, 45, 10]⟩ : ByteArray), (⟨#[46, 46, 46, 10, 37, 84, 65, 71, 32, 33, 104, 33, 32, 120, 45, 10, 45, 45, 45, 10]⟩ : ByteArray)] : List ByteArray))).bind fun bt346 => (if (x3_1 ++ t340).size + bt346.1.size ≤ 9223372036854775807 then (spec_l12Draw.l0 k1 ((x3_1 ++ t340) ++ bt346.1) (wrap64 (x4_1 - 1)) s0_0 bt346.2.1 bt346.2.2) else (none))) else (none)) = some (r1, r2, r3) := H
          have A12 := Aside0.mk A120
          clear A120
          by_cases c13 : x3_1.size + t340.size ≤ 9223372036854775807
          · rw [if_pos c13] at H
            have c13b0 := eq_true c13
            have c13b1 : decide (x3_1.size + t340.size ≤ 9223372036854775807) = true := decide_eq_true c13
            try have c13b2 : (9223372036854775807 < x3_1.size + t340.size) = False := eq_false (Nat.not_lt.2 c13)
            try (have c13b4 := c13b2; simp only [ByteArray.size_extract, Nat.min_self] at c13b4)
            obtain ⟨y343, hy343⟩ : ∃ y_ : List ByteArray, y_ = (([(⟨#[45, 45, 45, 10]⟩ : ByteArray), (⟨#[46, 46, 46, 10]⟩ : ByteArray), (⟨#[45, 45, 45, 10]⟩ : ByteArray), (⟨#[46, 46, 46, 32, 35, 32, 114, 10, 45, 45, 45, 10]⟩ : ByteArray), (⟨#[46, 46, 46, 10, 37, 84, 65, 71, 32, 33, 104, 33, 32, 120, 45, 10, 45, 45, 45, 10]⟩ : ByteArray)] : List ByteArray)) := ⟨_, rfl⟩
            replace H : ((spec_l01Of.f s0_0 t341 t342 y343).bind fun bt346 => (if (x3_1 ++ t340).size + bt346.1.size ≤ 9223372036854775807 then (spec_l12Draw.l0 k1 ((x3_1 ++ t340) ++ bt346.1) (wrap64 (x4_1 - 1)) s0_0 bt346.2.1 bt346.2.2) else (none))) = some (r1, r2, r3) := by first | (rw [hy343]; with_reducible exact H) | (have H2_ := (Option.bind_some _ _).symm.trans H; rw [hy343]; with_reducible exact H2_) | (have H2_ := (Option.bind_some _ _).symm.trans H; with_reducible exact H2_) | with_reducible exact H | (rw [hy343]; exact H) | exact H
            have Ny343 := Aside0.mk hy343
            clear hy343
            replace H := Option.bind_eq_some_iff.mp H
            obtain ⟨⟨t346, t347, t348⟩, A140, H⟩ := H
            replace H : (if (x3_1 ++ t340).size + t346.size ≤ 9223372036854775807 then (spec_l12Draw.l0 k1 ((x3_1 ++ t340) ++ t346) (wrap64 (x4_1 - 1)) s0_0 t347 t348) else (none)) = some (r1, r2, r3) := H
            have A14 := Aside0.mk A140
            clear A140
            by_cases c15 : (x3_1 ++ t340).size + t346.size ≤ 9223372036854775807
            · rw [if_pos c15] at H
              have c15b0 := eq_true c15
              have c15b1 : decide ((x3_1 ++ t340).size + t346.size ≤ 9223372036854775807) = true := decide_eq_true c15
              try have c15b2 : (9223372036854775807 < (x3_1 ++ t340).size + t346.size) = False := eq_false (Nat.not_lt.2 c15)
              try have c15b5 : (9223372036854775807 < x3_1.size + t340.size + t346.size) = False := by (have q := c15b2; simp only [ByteArray.size_append] at q; exact q)
              try (have c15b4 := c15b2; simp only [ByteArray.size_extract, Nat.min_self] at c15b4)
              have H' := Aside0.mk H
              clear H
              go_wp2_with (first | ((with_reducible refine gate_callee (f := 16) rfl ?_); refine goesL_ (some 16) rfl rfl Try.func16 (by kernel_rfl) rfl #[.pointer (some ⟨g, 0, none⟩), .int .i64 5] rfl (by (try simp only [List.map_toArray, List.map_cons, List.map_nil]); first | done | rfl | (simp only [List.length_drop, List.length_take]; rfl)) ?_; (with_reducible refine (spec_l01Below.calls g s0_0 x1001_1 x1002_1 5 t337 t338 t339 w0 _ ?side1 ?side2 A10.out).mono ?_); (case side1 => repeat (first | (with_reducible first | exact HI0.out | apply IsS35.alloc | apply IsS35.drewN | apply IsS35.drew | apply IsS35.set_1 | apply IsS35.set_2) | exact HI0.out)); (case side2 => repeat (first | (with_reducible first | exact HB.out | apply below_alloc | apply pw_below_drewN | apply below_drew1 | refine below_set ?_ (IsS35.ge HI0.out)) | exact HB.out)); rintro e w16 ⟨rfl, hi, hb, hk⟩; refine ⟨_, rfl, ?_⟩; have n0_ := Aside0.mk (KeepBut.trans (by repeat (first | (with_reducible first | exact HK.out | apply KeepBut.set_ | apply keep_drewN | apply keep_drew | apply keep_alloc) | exact HK.out)) hk (.inl rfl)); have n1_ := Aside0.mk (hb); have n2_ := Aside0.mk (hi); clear HK; clear HB; clear HI0; have HK := n0_; have HB := n1_; have HI0 := n2_; clear n0_ n1_ n2_; (try clear hb); (try clear hb2); (try clear hk); (try clear hi)) | ((with_reducible refine gate_callee (f := 31) rfl ?_); refine goesL_ (some 27) rfl rfl Try.func31 (by kernel_rfl) rfl #[.pointer (some ⟨g, 0, none⟩), .int .i64 0, .int .i64 3] rfl (by (try simp only [List.map_toArray, List.map_cons, List.map_nil]); first | done | rfl | (simp only [List.length_drop, List.length_take]; rfl)) ?_; (with_reducible refine (spec_l11Draw.calls k1 g s0_0 t338 t339 0 3 t340 t341 t342 w0 _ ?side1 ?side2 A12.out).mono ?_); (case side1 => repeat (first | (with_reducible first | exact HI0.out | apply IsS35.alloc | apply IsS35.drewN | apply IsS35.drew | apply IsS35.set_1 | apply IsS35.set_2) | exact HI0.out)); (case side2 => repeat (first | (with_reducible first | exact HB.out | apply below_alloc | apply pw_below_drewN | apply below_drew1 | refine below_set ?_ (IsS35.ge HI0.out)) | exact HB.out)); rintro e w17 ⟨rfl, hi, hb, hk⟩; refine ⟨_, rfl, ?_⟩; have n0_ := Aside0.mk (KeepBut.trans (by repeat (first | (with_reducible first | exact HK.out | apply KeepBut.set_ | apply keep_drewN | apply keep_drew | apply keep_alloc) | exact HK.out)) hk (.inl rfl)); have n1_ := Aside0.mk (hb); have n2_ := Aside0.mk (hi); clear HK; clear HB; clear HI0; have HK := n0_; have HB := n1_; have HI0 := n2_; clear n0_ n1_ n2_; (try clear hb); (try clear hb2); (try clear hk); (try clear hi)) | ((with_reducible refine gate_dst (N := 40) rfl ?_); refine Kd.R_lit Kd.string _ 9 ?hg (N := 40) ?hd (xs := ([(⟨#[45, 45, 45, 10]⟩ : ByteArray), (⟨#[46, 46, 46, 10]⟩ : ByteArray), (⟨#[45, 45, 45, 10]⟩ : ByteArray), (⟨#[46, 46, 46, 32, 35, 32, 114, 10, 45, 45, 45, 10]⟩ : ByteArray), (⟨#[46, 46, 46, 10, 37, 84, 65, 71, 32, 33, 104, 33, 32, 120, 45, 10, 45, 45, 45, 10]⟩ : ByteArray)] : List ByteArray)) (inner := [.string (⟨#[45, 45, 45, 10]⟩ : ByteArray), .string (⟨#[46, 46, 46, 10]⟩ : ByteArray), .string (⟨#[45, 45, 45, 10]⟩ : ByteArray), .string (⟨#[46, 46, 46, 32, 35, 32, 114, 10, 45, 45, 45, 10]⟩ : ByteArray), .string (⟨#[46, 46, 46, 10, 37, 84, 65, 71, 32, 33, 104, 33, 32, 120, 45, 10, 45, 45, 45, 10]⟩ : ByteArray)]) (ok := fun _ => True) (okp := fun _ => True) ?hr ?hp (fun _ hk => hk) trivial (Below.refl _ _) (Nat.le_refl _) (by simp) ?_; (case hd => rfl); (case hg => rfl); (case hr => first | (go_simp; done) | (go_simp; rfl)); (case hp => exact (Reps.one (show Kd.M Kd.string _ _ _ (⟨#[45, 45, 45, 10]⟩ : ByteArray) [.string (⟨#[45, 45, 45, 10]⟩ : ByteArray)] from rfl) (Reps.one (show Kd.M Kd.string _ _ _ (⟨#[46, 46, 46, 10]⟩ : ByteArray) [.string (⟨#[46, 46, 46, 10]⟩ : ByteArray)] from rfl) (Reps.one (show Kd.M Kd.string _ _ _ (⟨#[45, 45, 45, 10]⟩ : ByteArray) [.string (⟨#[45, 45, 45, 10]⟩ : ByteArray)] from rfl) (Reps.one (show Kd.M Kd.string _ _ _ (⟨#[46, 46, 46, 32, 35, 32, 114, 10, 45, 45, 45, 10]⟩ : ByteArray) [.string (⟨#[46, 46, 46, 32, 35, 32, 114, 10, 45, 45, 45, 10]⟩ : ByteArray)] from rfl) (Reps.one (show Kd.M Kd.string _ _ _ (⟨#[46, 46, 46, 10, 37, 84, 65, 71, 32, 33, 104, 33, 32, 120, 45, 10, 45, 45, 45, 10]⟩ : ByteArray) [.string (⟨#[46, 46, 46, 10, 37, 84, 65, 71, 32, 33, 104, 33, 32, 120, 45, 10, 45, 45, 45, 10]⟩ : ByteArray)] from rfl) (Reps.none _ _))))))); intro v344 w18 ho19 hb hg_ hnew_; clear hg_ hnew_; (first | rw [← Ny343.out] at ho19 | (simp only [Int.reduceToNat] at ho19; rw [← Ny343.out] at ho19)); have n0_ := Aside0.mk (Kd.R_lower ho19 (keep_size (w := w) (g := g) (row := none) (by repeat (first | (with_reducible first | exact HK.out | apply KeepBut.set_ | apply keep_drewN | apply keep_drew | apply keep_alloc) | exact HK.out)))); have n1_ := Aside0.mk (IsS35.below (by repeat (first | (with_reducible first | exact HI0.out | apply IsS35.alloc | apply IsS35.drewN | apply IsS35.drew | apply IsS35.set_1 | apply IsS35.set_2) | exact HI0.out)) hb); have n2_ := Aside0.mk (KeepBut.trans (by repeat (first | (with_reducible first | exact HK.out | apply KeepBut.set_ | apply keep_drewN | apply keep_drew | apply keep_alloc) | exact HK.out)) (KeepBut.of_below hb g none) (.inl rfl)); have n3_ := Aside0.mk (below_step (by repeat (first | (with_reducible first | exact HB.out | apply below_alloc | apply pw_below_drewN | apply below_drew1 | refine below_set ?_ (IsS35.ge HI0.out)) | exact HB.out)) hb); clear HI0; clear HK; clear HB; have HO345 := n0_; have HI0 := n1_; have HK := n2_; have HB := n3_; clear n0_ n1_ n2_ n3_; clear hb ho19; obtain ⟨Ao20, co20, eo20⟩ := Kd.R_slice HO345.out; subst eo20) | ((with_reducible refine gate_callee (f := 28) rfl ?_); refine goesL_ (some 41) rfl rfl Try.func28 (by kernel_rfl) rfl #[.pointer (some ⟨g, 0, none⟩), .slice Ao20 y343.length co20] rfl (by (try simp only [List.map_toArray, List.map_cons, List.map_nil]); first | done | rfl | (simp only [List.length_drop, List.length_take]; rfl)) ?_; (with_reducible refine (spec_l01Of.calls g s0_0 t341 t342 _ _ y343 t346 t347 t348 w0 _ ?side1 ?side2 ?side3 ?side4 ?side5 A14.out).mono ?_); (case side1 => repeat (first | (with_reducible first | exact HI0.out | apply IsS35.alloc | apply IsS35.drewN | apply IsS35.drew | apply IsS35.set_1 | apply IsS35.set_2) | exact HI0.out)); (case side2 => repeat (first | (with_reducible first | exact HB.out | apply below_alloc | apply pw_below_drewN | apply below_drew1 | refine below_set ?_ (IsS35.ge HI0.out)) | exact HB.out)); (case side3 => repeat (first | exact (Kd.R_reads' HO345.out).2.2 | (with_reducible refine Kd.C_alloc ?_ _) | (with_reducible refine Kd.C_drewN ?_ _) | (with_reducible refine Kd.C_drew ?_))); (case side4 => exact (Kd.R_reads' HO345.out).2.1); (case side5 => exact far_slice (IsS35.own_ne HI0.out HO345.out (by decide))); rintro e w21 ⟨rfl, hi, hb, hk⟩; refine ⟨_, rfl, ?_⟩; have n0_ := Aside0.mk (Kd.R_mono (Kd.R_keep (IsS35.apart (show IsS35 w0 _ g s0_0 t341 t342 from by repeat (first | (with_reducible first | exact HI0.out | apply IsS35.alloc | apply IsS35.drewN | apply IsS35.drew | apply IsS35.set_1 | apply IsS35.set_2) | exact HI0.out)) (by (with_reducible repeat (first | apply Kd.R_alloc | apply Kd.R_drewN | apply Kd.R_drew)); exact HO345.out) (by decide)) hk (fun _ h => h.2)) (fun _ h => h.1)); have n1_ := Aside0.mk (KeepBut.trans (by repeat (first | (with_reducible first | exact HK.out | apply KeepBut.set_ | apply keep_drewN | apply keep_drew | apply keep_alloc) | exact HK.out)) hk (.inl rfl)); have n2_ := Aside0.mk (hb); have n3_ := Aside0.mk (hi); clear HO345; clear HK; clear HB; clear HI0; have HO345 := n0_; have HK := n1_; have HB := n2_; have HI0 := n3_; clear n0_ n1_ n2_ n3_; (try clear hb); (try clear hb2); (try clear hk); (try clear hi)))
              go_roundg k1
              case measure => have := HK1.out; omega
              case rel => exact ⟨((x3_1 ++ t340) ++ t346), (wrap64 (x4_1 - 1)), (t347), (t348), (by first | rfl | (simp; done) | (simp [*]; done)), (by first | rfl | (simp; done) | (simp [*]; done)), H', ⟨by have := HK1.out; omega⟩, ⟨by repeat (first | (with_reducible first | exact HI0.out | apply IsS35.alloc | apply IsS35.drewN | apply IsS35.drew | apply IsS35.set_1 | apply IsS35.set_2) | exact HI0.out)⟩, ⟨by repeat (first | (with_reducible first | exact HK.out | apply KeepBut.set_ | apply keep_drewN | apply keep_drew | apply keep_alloc) | exact HK.out)⟩, ⟨by repeat (first | (with_reducible first | exact HB.out | apply below_alloc | apply pw_below_drewN | apply below_drew1 | refine below_set ?_ (IsS35.ge HI0.out)) | exact HB.out)⟩⟩
            · rw [if_neg c15] at H
              exact absurd H (by simp)
          · rw [if_neg c13] at H
            exact absurd H (by simp)
        · rw [if_neg c11] at H
          have c11b0 : decide (t337 < 3) = false := decide_eq_false c11
          clear c11
          by_cases c22 : t337 = 3
          · rw [if_pos c22] at H
            have c22b0 : (t337 == 3) = true := beq_iff_eq.mpr c22
            have c22b1 : (t337 != 3) = false := bne_eq_false_iff_eq.mpr c22
            clear c22
            by_cases c23 : x3_1.size + 4 ≤ 9223372036854775807
            · rw [if_pos c23] at H
              have c23b0 := eq_true c23
              have c23b1 : decide (x3_1.size + 4 ≤ 9223372036854775807) = true := decide_eq_true c23
              try have c23b2 : (9223372036854775807 < x3_1.size + 4) = False := eq_false (Nat.not_lt.2 c23)
              try (have c23b4 := c23b2; simp only [ByteArray.size_extract, Nat.min_self] at c23b4)
              replace H := Option.bind_eq_some_iff.mp H
              obtain ⟨⟨t349, t350, t351⟩, A240, H⟩ := H
              replace H : (if (x3_1 ++ (⟨#[45, 45, 45, 32]⟩ : ByteArray)).size + t349.size ≤ 9223372036854775807 then (if ((x3_1 ++ (⟨#[45, 45, 45, 32]⟩ : ByteArray)) ++ t349).size + 1 ≤ 9223372036854775807 then ((spec_l01Of.f s0_0 t350 t351 (([(⟨#[45, 45, 45, 10]⟩ : ByteArray), (⟨#[46, 46, 46, 10]⟩ : ByteArray), (⟨#[45, 45, 45, 10]⟩ : ByteArray), (⟨#[46, 46, 46, 32, 35, 32, 114, 10, 45, 45, 45, 10]⟩ : ByteArray), (⟨#[46, 46, 46, 10, 37, 84, 65, 71, 32, 33, 104, 33, 32, 120, 45, 10, 45, 45, 45, 10]⟩ : ByteArray)] : List ByteArray))).bind fun bt355 => (if (((x3_1 ++ (⟨#[45, 45, 45, 32]⟩ : ByteArray)) ++ t349) ++ (⟨#[10]⟩ : ByteArray)).size + bt355.1.size ≤ 9223372036854775807 then (spec_l12Draw.l0 k1 ((((x3_1 ++ (⟨#[45, 45, 45, 32]⟩ : ByteArray)) ++ t349) ++ (⟨#[10]⟩ : ByteArray)) ++ bt355.1) (wrap64 (x4_1 - 1)) s0_0 bt355.2.1 bt355.2.2) else (none))) else (none)) else (none)) = some (r1, r2, r3) := H
              have A24 := Aside0.mk A240
              clear A240
              by_cases c25 : (x3_1 ++ (⟨#[45, 45, 45, 32]⟩ : ByteArray)).size + t349.size ≤ 9223372036854775807
              · rw [if_pos c25] at H
                have c25b0 := eq_true c25
                have c25b1 : decide ((x3_1 ++ (⟨#[45, 45, 45, 32]⟩ : ByteArray)).size + t349.size ≤ 9223372036854775807) = true := decide_eq_true c25
                try have c25b2 : (9223372036854775807 < (x3_1 ++ (⟨#[45, 45, 45, 32]⟩ : ByteArray)).size + t349.size) = False := eq_false (Nat.not_lt.2 c25)
                try have c25b5 : (9223372036854775807 < x3_1.size + 4 + t349.size) = False := by (have q := c25b2; simp only [ByteArray.size_append] at q; exact q)
                try (have c25b4 := c25b2; simp only [ByteArray.size_extract, Nat.min_self] at c25b4)
                by_cases c26 : ((x3_1 ++ (⟨#[45, 45, 45, 32]⟩ : ByteArray)) ++ t349).size + 1 ≤ 9223372036854775807
                · rw [if_pos c26] at H
                  have c26b0 := eq_true c26
                  have c26b1 : decide (((x3_1 ++ (⟨#[45, 45, 45, 32]⟩ : ByteArray)) ++ t349).size + 1 ≤ 9223372036854775807) = true := decide_eq_true c26
                  try have c26b2 : (9223372036854775807 < ((x3_1 ++ (⟨#[45, 45, 45, 32]⟩ : ByteArray)) ++ t349).size + 1) = False := eq_false (Nat.not_lt.2 c26)
                  try have c26b5 : (9223372036854775807 < x3_1.size + 4 + t349.size + 1) = False := by (have q := c26b2; simp only [ByteArray.size_append] at q; exact q)
                  try (have c26b4 := c26b2; simp only [ByteArray.size_extract, Nat.min_self] at c26b4)
                  obtain ⟨y352, hy352⟩ : ∃ y_ : List ByteArray, y_ = (([(⟨#[45, 45, 45, 10]⟩ : ByteArray), (⟨#[46, 46, 46, 10]⟩ : ByteArray), (⟨#[45, 45, 45, 10]⟩ : ByteArray), (⟨#[46, 46, 46, 32, 35, 32, 114, 10, 45, 45, 45, 10]⟩ : ByteArray), (⟨#[46, 46, 46, 10, 37, 84, 65, 71, 32, 33, 104, 33, 32, 120, 45, 10, 45, 45, 45, 10]⟩ : ByteArray)] : List ByteArray)) := ⟨_, rfl⟩
                  replace H : ((spec_l01Of.f s0_0 t350 t351 y352).bind fun bt355 => (if (((x3_1 ++ (⟨#[45, 45, 45, 32]⟩ : ByteArray)) ++ t349) ++ (⟨#[10]⟩ : ByteArray)).size + bt355.1.size ≤ 9223372036854775807 then (spec_l12Draw.l0 k1 ((((x3_1 ++ (⟨#[45, 45, 45, 32]⟩ : ByteArray)) ++ t349) ++ (⟨#[10]⟩ : ByteArray)) ++ bt355.1) (wrap64 (x4_1 - 1)) s0_0 bt355.2.1 bt355.2.2) else (none))) = some (r1, r2, r3) := by first | (rw [hy352]; with_reducible exact H) | (have H2_ := (Option.bind_some _ _).symm.trans H; rw [hy352]; with_reducible exact H2_) | (have H2_ := (Option.bind_some _ _).symm.trans H; with_reducible exact H2_) | with_reducible exact H | (rw [hy352]; exact H) | exact H
                  have Ny352 := Aside0.mk hy352
                  clear hy352
                  replace H := Option.bind_eq_some_iff.mp H
                  obtain ⟨⟨t355, t356, t357⟩, A270, H⟩ := H
                  replace H : (if (((x3_1 ++ (⟨#[45, 45, 45, 32]⟩ : ByteArray)) ++ t349) ++ (⟨#[10]⟩ : ByteArray)).size + t355.size ≤ 9223372036854775807 then (spec_l12Draw.l0 k1 ((((x3_1 ++ (⟨#[45, 45, 45, 32]⟩ : ByteArray)) ++ t349) ++ (⟨#[10]⟩ : ByteArray)) ++ t355) (wrap64 (x4_1 - 1)) s0_0 t356 t357) else (none)) = some (r1, r2, r3) := H
                  have A27 := Aside0.mk A270
                  clear A270
                  by_cases c28 : (((x3_1 ++ (⟨#[45, 45, 45, 32]⟩ : ByteArray)) ++ t349) ++ (⟨#[10]⟩ : ByteArray)).size + t355.size ≤ 9223372036854775807
                  · rw [if_pos c28] at H
                    have c28b0 := eq_true c28
                    have c28b1 : decide ((((x3_1 ++ (⟨#[45, 45, 45, 32]⟩ : ByteArray)) ++ t349) ++ (⟨#[10]⟩ : ByteArray)).size + t355.size ≤ 9223372036854775807) = true := decide_eq_true c28
                    try have c28b2 : (9223372036854775807 < (((x3_1 ++ (⟨#[45, 45, 45, 32]⟩ : ByteArray)) ++ t349) ++ (⟨#[10]⟩ : ByteArray)).size + t355.size) = False := eq_false (Nat.not_lt.2 c28)
                    try have c28b5 : (9223372036854775807 < x3_1.size + 4 + t349.size + 1 + t355.size) = False := by (have q := c28b2; simp only [ByteArray.size_append] at q; exact q)
                    try (have c28b4 := c28b2; simp only [ByteArray.size_extract, Nat.min_self] at c28b4)
                    have H' := Aside0.mk H
                    clear H
                    go_wp2_with (first | ((with_reducible refine gate_callee (f := 16) rfl ?_); refine goesL_ (some 16) rfl rfl Try.func16 (by kernel_rfl) rfl #[.pointer (some ⟨g, 0, none⟩), .int .i64 5] rfl (by (try simp only [List.map_toArray, List.map_cons, List.map_nil]); first | done | rfl | (simp only [List.length_drop, List.length_take]; rfl)) ?_; (with_reducible refine (spec_l01Below.calls g s0_0 x1001_1 x1002_1 5 t337 t338 t339 w0 _ ?side1 ?side2 A10.out).mono ?_); (case side1 => repeat (first | (with_reducible first | exact HI0.out | apply IsS35.alloc | apply IsS35.drewN | apply IsS35.drew | apply IsS35.set_1 | apply IsS35.set_2) | exact HI0.out)); (case side2 => repeat (first | (with_reducible first | exact HB.out | apply below_alloc | apply pw_below_drewN | apply below_drew1 | refine below_set ?_ (IsS35.ge HI0.out)) | exact HB.out)); rintro e w29 ⟨rfl, hi, hb, hk⟩; refine ⟨_, rfl, ?_⟩; have n0_ := Aside0.mk (KeepBut.trans (by repeat (first | (with_reducible first | exact HK.out | apply KeepBut.set_ | apply keep_drewN | apply keep_drew | apply keep_alloc) | exact HK.out)) hk (.inl rfl)); have n1_ := Aside0.mk (hb); have n2_ := Aside0.mk (hi); clear HK; clear HB; clear HI0; have HK := n0_; have HB := n1_; have HI0 := n2_; clear n0_ n1_ n2_; (try clear hb); (try clear hb2); (try clear hk); (try clear hi)) | ((with_reducible refine gate_callee (f := 32) rfl ?_); refine goesL_ (some 35) rfl rfl Try.func32 (by kernel_rfl) rfl #[.pointer (some ⟨g, 0, none⟩)] rfl (by (try simp only [List.map_toArray, List.map_cons, List.map_nil]); first | done | rfl | (simp only [List.length_drop, List.length_take]; rfl)) ?_; (with_reducible refine (spec_l11Leaf.calls k1 g s0_0 t338 t339 t349 t350 t351 w0 _ ?side1 ?side2 A24.out).mono ?_); (case side1 => repeat (first | (with_reducible first | exact HI0.out | apply IsS35.alloc | apply IsS35.drewN | apply IsS35.drew | apply IsS35.set_1 | apply IsS35.set_2) | exact HI0.out)); (case side2 => repeat (first | (with_reducible first | exact HB.out | apply below_alloc | apply pw_below_drewN | apply below_drew1 | refine below_set ?_ (IsS35.ge HI0.out)) | exact HB.out)); rintro e w30 ⟨rfl, hi, hb, hk⟩; refine ⟨_, rfl, ?_⟩; have n0_ := Aside0.mk (KeepBut.trans (by repeat (first | (with_reducible first | exact HK.out | apply KeepBut.set_ | apply keep_drewN | apply keep_drew | apply keep_alloc) | exact HK.out)) hk (.inl rfl)); have n1_ := Aside0.mk (hb); have n2_ := Aside0.mk (hi); clear HK; clear HB; clear HI0; have HK := n0_; have HB := n1_; have HI0 := n2_; clear n0_ n1_ n2_; (try clear hb); (try clear hb2); (try clear hk); (try clear hi)) | ((with_reducible refine gate_dst (N := 40) rfl ?_); refine Kd.R_lit Kd.string _ 9 ?hg (N := 40) ?hd (xs := ([(⟨#[45, 45, 45, 10]⟩ : ByteArray), (⟨#[46, 46, 46, 10]⟩ : ByteArray), (⟨#[45, 45, 45, 10]⟩ : ByteArray), (⟨#[46, 46, 46, 32, 35, 32, 114, 10, 45, 45, 45, 10]⟩ : ByteArray), (⟨#[46, 46, 46, 10, 37, 84, 65, 71, 32, 33, 104, 33, 32, 120, 45, 10, 45, 45, 45, 10]⟩ : ByteArray)] : List ByteArray)) (inner := [.string (⟨#[45, 45, 45, 10]⟩ : ByteArray), .string (⟨#[46, 46, 46, 10]⟩ : ByteArray), .string (⟨#[45, 45, 45, 10]⟩ : ByteArray), .string (⟨#[46, 46, 46, 32, 35, 32, 114, 10, 45, 45, 45, 10]⟩ : ByteArray), .string (⟨#[46, 46, 46, 10, 37, 84, 65, 71, 32, 33, 104, 33, 32, 120, 45, 10, 45, 45, 45, 10]⟩ : ByteArray)]) (ok := fun _ => True) (okp := fun _ => True) ?hr ?hp (fun _ hk => hk) trivial (Below.refl _ _) (Nat.le_refl _) (by simp) ?_; (case hd => rfl); (case hg => rfl); (case hr => first | (go_simp; done) | (go_simp; rfl)); (case hp => exact (Reps.one (show Kd.M Kd.string _ _ _ (⟨#[45, 45, 45, 10]⟩ : ByteArray) [.string (⟨#[45, 45, 45, 10]⟩ : ByteArray)] from rfl) (Reps.one (show Kd.M Kd.string _ _ _ (⟨#[46, 46, 46, 10]⟩ : ByteArray) [.string (⟨#[46, 46, 46, 10]⟩ : ByteArray)] from rfl) (Reps.one (show Kd.M Kd.string _ _ _ (⟨#[45, 45, 45, 10]⟩ : ByteArray) [.string (⟨#[45, 45, 45, 10]⟩ : ByteArray)] from rfl) (Reps.one (show Kd.M Kd.string _ _ _ (⟨#[46, 46, 46, 32, 35, 32, 114, 10, 45, 45, 45, 10]⟩ : ByteArray) [.string (⟨#[46, 46, 46, 32, 35, 32, 114, 10, 45, 45, 45, 10]⟩ : ByteArray)] from rfl) (Reps.one (show Kd.M Kd.string _ _ _ (⟨#[46, 46, 46, 10, 37, 84, 65, 71, 32, 33, 104, 33, 32, 120, 45, 10, 45, 45, 45, 10]⟩ : ByteArray) [.string (⟨#[46, 46, 46, 10, 37, 84, 65, 71, 32, 33, 104, 33, 32, 120, 45, 10, 45, 45, 45, 10]⟩ : ByteArray)] from rfl) (Reps.none _ _))))))); intro v353 w31 ho32 hb hg_ hnew_; clear hg_ hnew_; (first | rw [← Ny352.out] at ho32 | (simp only [Int.reduceToNat] at ho32; rw [← Ny352.out] at ho32)); have n0_ := Aside0.mk (Kd.R_lower ho32 (keep_size (w := w) (g := g) (row := none) (by repeat (first | (with_reducible first | exact HK.out | apply KeepBut.set_ | apply keep_drewN | apply keep_drew | apply keep_alloc) | exact HK.out)))); have n1_ := Aside0.mk (IsS35.below (by repeat (first | (with_reducible first | exact HI0.out | apply IsS35.alloc | apply IsS35.drewN | apply IsS35.drew | apply IsS35.set_1 | apply IsS35.set_2) | exact HI0.out)) hb); have n2_ := Aside0.mk (KeepBut.trans (by repeat (first | (with_reducible first | exact HK.out | apply KeepBut.set_ | apply keep_drewN | apply keep_drew | apply keep_alloc) | exact HK.out)) (KeepBut.of_below hb g none) (.inl rfl)); have n3_ := Aside0.mk (below_step (by repeat (first | (with_reducible first | exact HB.out | apply below_alloc | apply pw_below_drewN | apply below_drew1 | refine below_set ?_ (IsS35.ge HI0.out)) | exact HB.out)) hb); clear HI0; clear HK; clear HB; have HO354 := n0_; have HI0 := n1_; have HK := n2_; have HB := n3_; clear n0_ n1_ n2_ n3_; clear hb ho32; obtain ⟨Ao33, co33, eo33⟩ := Kd.R_slice HO354.out; subst eo33) | ((with_reducible refine gate_callee (f := 28) rfl ?_); refine goesL_ (some 41) rfl rfl Try.func28 (by kernel_rfl) rfl #[.pointer (some ⟨g, 0, none⟩), .slice Ao33 y352.length co33] rfl (by (try simp only [List.map_toArray, List.map_cons, List.map_nil]); first | done | rfl | (simp only [List.length_drop, List.length_take]; rfl)) ?_; (with_reducible refine (spec_l01Of.calls g s0_0 t350 t351 _ _ y352 t355 t356 t357 w0 _ ?side1 ?side2 ?side3 ?side4 ?side5 A27.out).mono ?_); (case side1 => repeat (first | (with_reducible first | exact HI0.out | apply IsS35.alloc | apply IsS35.drewN | apply IsS35.drew | apply IsS35.set_1 | apply IsS35.set_2) | exact HI0.out)); (case side2 => repeat (first | (with_reducible first | exact HB.out | apply below_alloc | apply pw_below_drewN | apply below_drew1 | refine below_set ?_ (IsS35.ge HI0.out)) | exact HB.out)); (case side3 => repeat (first | exact (Kd.R_reads' HO354.out).2.2 | (with_reducible refine Kd.C_alloc ?_ _) | (with_reducible refine Kd.C_drewN ?_ _) | (with_reducible refine Kd.C_drew ?_))); (case side4 => exact (Kd.R_reads' HO354.out).2.1); (case side5 => exact far_slice (IsS35.own_ne HI0.out HO354.out (by decide))); rintro e w34 ⟨rfl, hi, hb, hk⟩; refine ⟨_, rfl, ?_⟩; have n0_ := Aside0.mk (Kd.R_mono (Kd.R_keep (IsS35.apart (show IsS35 w0 _ g s0_0 t350 t351 from by repeat (first | (with_reducible first | exact HI0.out | apply IsS35.alloc | apply IsS35.drewN | apply IsS35.drew | apply IsS35.set_1 | apply IsS35.set_2) | exact HI0.out)) (by (with_reducible repeat (first | apply Kd.R_alloc | apply Kd.R_drewN | apply Kd.R_drew)); exact HO354.out) (by decide)) hk (fun _ h => h.2)) (fun _ h => h.1)); have n1_ := Aside0.mk (KeepBut.trans (by repeat (first | (with_reducible first | exact HK.out | apply KeepBut.set_ | apply keep_drewN | apply keep_drew | apply keep_alloc) | exact HK.out)) hk (.inl rfl)); have n2_ := Aside0.mk (hb); have n3_ := Aside0.mk (hi); clear HO354; clear HK; clear HB; clear HI0; have HO354 := n0_; have HK := n1_; have HB := n2_; have HI0 := n3_; clear n0_ n1_ n2_ n3_; (try clear hb); (try clear hb2); (try clear hk); (try clear hi)))
                    go_roundg k1
                    case measure => have := HK1.out; omega
                    case rel => exact ⟨((((x3_1 ++ (⟨#[45, 45, 45, 32]⟩ : ByteArray)) ++ t349) ++ (⟨#[10]⟩ : ByteArray)) ++ t355), (wrap64 (x4_1 - 1)), (t356), (t357), (by first | rfl | (simp; done) | (simp [*]; done)), (by first | rfl | (simp; done) | (simp [*]; done)), H', ⟨by have := HK1.out; omega⟩, ⟨by repeat (first | (with_reducible first | exact HI0.out | apply IsS35.alloc | apply IsS35.drewN | apply IsS35.drew | apply IsS35.set_1 | apply IsS35.set_2) | exact HI0.out)⟩, ⟨by repeat (first | (with_reducible first | exact HK.out | apply KeepBut.set_ | apply keep_drewN | apply keep_drew | apply keep_alloc) | exact HK.out)⟩, ⟨by repeat (first | (with_reducible first | exact HB.out | apply below_alloc | apply pw_below_drewN | apply below_drew1 | refine below_set ?_ (IsS35.ge HI0.out)) | exact HB.out)⟩⟩
                  · rw [if_neg c28] at H
                    exact absurd H (by simp)
                · rw [if_neg c26] at H
                  exact absurd H (by simp)
              · rw [if_neg c25] at H
                exact absurd H (by simp)
            · rw [if_neg c23] at H
              exact absurd H (by simp)
          · rw [if_neg c22] at H
            have c22b0 : (t337 == 3) = false := beq_eq_false_iff_ne.mpr c22
            have c22b1 : (t337 != 3) = true := bne_iff_ne.mpr c22
            replace H := Option.bind_eq_some_iff.mp H
            obtain ⟨⟨t358, t359, t360⟩, A350, H⟩ := H
            replace H : (if x3_1.size + t358.size ≤ 9223372036854775807 then (if (x3_1 ++ t358).size + 1 ≤ 9223372036854775807 then ((spec_l01Of.f s0_0 t359 t360 (([(⟨#[45, 45, 45, 10]⟩ : ByteArray), (⟨#[46, 46, 46, 10]⟩ : ByteArray), (⟨#[45, 45, 45, 10]⟩ : ByteArray), (⟨#[46, 46, 46, 32, 35, 32, 114, 10, 45, 45, 45, 10]⟩ : ByteArray), (⟨#[46, 46, 46, 10, 37, 84, 65, 71, 32, 33, 104, 33, 32, 120, 45, 10, 45, 45, 45, 10]⟩ : ByteArray)] : List ByteArray))).bind fun bt364 => (if ((x3_1 ++ t358) ++ (⟨#[10]⟩ : ByteArray)).size + bt364.1.size ≤ 9223372036854775807 then (spec_l12Draw.l0 k1 (((x3_1 ++ t358) ++ (⟨#[10]⟩ : ByteArray)) ++ bt364.1) (wrap64 (x4_1 - 1)) s0_0 bt364.2.1 bt364.2.2) else (none))) else (none)) else (none)) = some (r1, r2, r3) := H
            have A35 := Aside0.mk A350
            clear A350
            by_cases c36 : x3_1.size + t358.size ≤ 9223372036854775807
            · rw [if_pos c36] at H
              have c36b0 := eq_true c36
              have c36b1 : decide (x3_1.size + t358.size ≤ 9223372036854775807) = true := decide_eq_true c36
              try have c36b2 : (9223372036854775807 < x3_1.size + t358.size) = False := eq_false (Nat.not_lt.2 c36)
              try (have c36b4 := c36b2; simp only [ByteArray.size_extract, Nat.min_self] at c36b4)
              by_cases c37 : (x3_1 ++ t358).size + 1 ≤ 9223372036854775807
              · rw [if_pos c37] at H
                have c37b0 := eq_true c37
                have c37b1 : decide ((x3_1 ++ t358).size + 1 ≤ 9223372036854775807) = true := decide_eq_true c37
                try have c37b2 : (9223372036854775807 < (x3_1 ++ t358).size + 1) = False := eq_false (Nat.not_lt.2 c37)
                try have c37b5 : (9223372036854775807 < x3_1.size + t358.size + 1) = False := by (have q := c37b2; simp only [ByteArray.size_append] at q; exact q)
                try (have c37b4 := c37b2; simp only [ByteArray.size_extract, Nat.min_self] at c37b4)
                obtain ⟨y361, hy361⟩ : ∃ y_ : List ByteArray, y_ = (([(⟨#[45, 45, 45, 10]⟩ : ByteArray), (⟨#[46, 46, 46, 10]⟩ : ByteArray), (⟨#[45, 45, 45, 10]⟩ : ByteArray), (⟨#[46, 46, 46, 32, 35, 32, 114, 10, 45, 45, 45, 10]⟩ : ByteArray), (⟨#[46, 46, 46, 10, 37, 84, 65, 71, 32, 33, 104, 33, 32, 120, 45, 10, 45, 45, 45, 10]⟩ : ByteArray)] : List ByteArray)) := ⟨_, rfl⟩
                replace H : ((spec_l01Of.f s0_0 t359 t360 y361).bind fun bt364 => (if ((x3_1 ++ t358) ++ (⟨#[10]⟩ : ByteArray)).size + bt364.1.size ≤ 9223372036854775807 then (spec_l12Draw.l0 k1 (((x3_1 ++ t358) ++ (⟨#[10]⟩ : ByteArray)) ++ bt364.1) (wrap64 (x4_1 - 1)) s0_0 bt364.2.1 bt364.2.2) else (none))) = some (r1, r2, r3) := by first | (rw [hy361]; with_reducible exact H) | (have H2_ := (Option.bind_some _ _).symm.trans H; rw [hy361]; with_reducible exact H2_) | (have H2_ := (Option.bind_some _ _).symm.trans H; with_reducible exact H2_) | with_reducible exact H | (rw [hy361]; exact H) | exact H
                have Ny361 := Aside0.mk hy361
                clear hy361
                replace H := Option.bind_eq_some_iff.mp H
                obtain ⟨⟨t364, t365, t366⟩, A380, H⟩ := H
                replace H : (if ((x3_1 ++ t358) ++ (⟨#[10]⟩ : ByteArray)).size + t364.size ≤ 9223372036854775807 then (spec_l12Draw.l0 k1 (((x3_1 ++ t358) ++ (⟨#[10]⟩ : ByteArray)) ++ t364) (wrap64 (x4_1 - 1)) s0_0 t365 t366) else (none)) = some (r1, r2, r3) := H
                have A38 := Aside0.mk A380
                clear A380
                by_cases c39 : ((x3_1 ++ t358) ++ (⟨#[10]⟩ : ByteArray)).size + t364.size ≤ 9223372036854775807
                · rw [if_pos c39] at H
                  have c39b0 := eq_true c39
                  have c39b1 : decide (((x3_1 ++ t358) ++ (⟨#[10]⟩ : ByteArray)).size + t364.size ≤ 9223372036854775807) = true := decide_eq_true c39
                  try have c39b2 : (9223372036854775807 < ((x3_1 ++ t358) ++ (⟨#[10]⟩ : ByteArray)).size + t364.size) = False := eq_false (Nat.not_lt.2 c39)
                  try have c39b5 : (9223372036854775807 < x3_1.size + t358.size + 1 + t364.size) = False := by (have q := c39b2; simp only [ByteArray.size_append] at q; exact q)
                  try (have c39b4 := c39b2; simp only [ByteArray.size_extract, Nat.min_self] at c39b4)
                  have H' := Aside0.mk H
                  clear H
                  go_wp2_with (first | ((with_reducible refine gate_callee (f := 16) rfl ?_); refine goesL_ (some 16) rfl rfl Try.func16 (by kernel_rfl) rfl #[.pointer (some ⟨g, 0, none⟩), .int .i64 5] rfl (by (try simp only [List.map_toArray, List.map_cons, List.map_nil]); first | done | rfl | (simp only [List.length_drop, List.length_take]; rfl)) ?_; (with_reducible refine (spec_l01Below.calls g s0_0 x1001_1 x1002_1 5 t337 t338 t339 w0 _ ?side1 ?side2 A10.out).mono ?_); (case side1 => repeat (first | (with_reducible first | exact HI0.out | apply IsS35.alloc | apply IsS35.drewN | apply IsS35.drew | apply IsS35.set_1 | apply IsS35.set_2) | exact HI0.out)); (case side2 => repeat (first | (with_reducible first | exact HB.out | apply below_alloc | apply pw_below_drewN | apply below_drew1 | refine below_set ?_ (IsS35.ge HI0.out)) | exact HB.out)); rintro e w40 ⟨rfl, hi, hb, hk⟩; refine ⟨_, rfl, ?_⟩; have n0_ := Aside0.mk (KeepBut.trans (by repeat (first | (with_reducible first | exact HK.out | apply KeepBut.set_ | apply keep_drewN | apply keep_drew | apply keep_alloc) | exact HK.out)) hk (.inl rfl)); have n1_ := Aside0.mk (hb); have n2_ := Aside0.mk (hi); clear HK; clear HB; clear HI0; have HK := n0_; have HB := n1_; have HI0 := n2_; clear n0_ n1_ n2_; (try clear hb); (try clear hb2); (try clear hk); (try clear hi)) | ((with_reducible refine gate_callee (f := 33) rfl ?_); refine goesL_ (some 19) rfl rfl Try.func33 (by kernel_rfl) rfl #[.pointer (some ⟨g, 0, none⟩), .int .i64 2] rfl (by (try simp only [List.map_toArray, List.map_cons, List.map_nil]); first | done | rfl | (simp only [List.length_drop, List.length_take]; rfl)) ?_; (with_reducible refine (spec_l10Draw.calls k1 g s0_0 t338 t339 2 t358 t359 t360 w0 _ ?side1 ?side2 A35.out).mono ?_); (case side1 => repeat (first | (with_reducible first | exact HI0.out | apply IsS35.alloc | apply IsS35.drewN | apply IsS35.drew | apply IsS35.set_1 | apply IsS35.set_2) | exact HI0.out)); (case side2 => repeat (first | (with_reducible first | exact HB.out | apply below_alloc | apply pw_below_drewN | apply below_drew1 | refine below_set ?_ (IsS35.ge HI0.out)) | exact HB.out)); rintro e w41 ⟨rfl, hi, hb, hk⟩; refine ⟨_, rfl, ?_⟩; have n0_ := Aside0.mk (KeepBut.trans (by repeat (first | (with_reducible first | exact HK.out | apply KeepBut.set_ | apply keep_drewN | apply keep_drew | apply keep_alloc) | exact HK.out)) hk (.inl rfl)); have n1_ := Aside0.mk (hb); have n2_ := Aside0.mk (hi); clear HK; clear HB; clear HI0; have HK := n0_; have HB := n1_; have HI0 := n2_; clear n0_ n1_ n2_; (try clear hb); (try clear hb2); (try clear hk); (try clear hi)) | ((with_reducible refine gate_dst (N := 40) rfl ?_); refine Kd.R_lit Kd.string _ 9 ?hg (N := 40) ?hd (xs := ([(⟨#[45, 45, 45, 10]⟩ : ByteArray), (⟨#[46, 46, 46, 10]⟩ : ByteArray), (⟨#[45, 45, 45, 10]⟩ : ByteArray), (⟨#[46, 46, 46, 32, 35, 32, 114, 10, 45, 45, 45, 10]⟩ : ByteArray), (⟨#[46, 46, 46, 10, 37, 84, 65, 71, 32, 33, 104, 33, 32, 120, 45, 10, 45, 45, 45, 10]⟩ : ByteArray)] : List ByteArray)) (inner := [.string (⟨#[45, 45, 45, 10]⟩ : ByteArray), .string (⟨#[46, 46, 46, 10]⟩ : ByteArray), .string (⟨#[45, 45, 45, 10]⟩ : ByteArray), .string (⟨#[46, 46, 46, 32, 35, 32, 114, 10, 45, 45, 45, 10]⟩ : ByteArray), .string (⟨#[46, 46, 46, 10, 37, 84, 65, 71, 32, 33, 104, 33, 32, 120, 45, 10, 45, 45, 45, 10]⟩ : ByteArray)]) (ok := fun _ => True) (okp := fun _ => True) ?hr ?hp (fun _ hk => hk) trivial (Below.refl _ _) (Nat.le_refl _) (by simp) ?_; (case hd => rfl); (case hg => rfl); (case hr => first | (go_simp; done) | (go_simp; rfl)); (case hp => exact (Reps.one (show Kd.M Kd.string _ _ _ (⟨#[45, 45, 45, 10]⟩ : ByteArray) [.string (⟨#[45, 45, 45, 10]⟩ : ByteArray)] from rfl) (Reps.one (show Kd.M Kd.string _ _ _ (⟨#[46, 46, 46, 10]⟩ : ByteArray) [.string (⟨#[46, 46, 46, 10]⟩ : ByteArray)] from rfl) (Reps.one (show Kd.M Kd.string _ _ _ (⟨#[45, 45, 45, 10]⟩ : ByteArray) [.string (⟨#[45, 45, 45, 10]⟩ : ByteArray)] from rfl) (Reps.one (show Kd.M Kd.string _ _ _ (⟨#[46, 46, 46, 32, 35, 32, 114, 10, 45, 45, 45, 10]⟩ : ByteArray) [.string (⟨#[46, 46, 46, 32, 35, 32, 114, 10, 45, 45, 45, 10]⟩ : ByteArray)] from rfl) (Reps.one (show Kd.M Kd.string _ _ _ (⟨#[46, 46, 46, 10, 37, 84, 65, 71, 32, 33, 104, 33, 32, 120, 45, 10, 45, 45, 45, 10]⟩ : ByteArray) [.string (⟨#[46, 46, 46, 10, 37, 84, 65, 71, 32, 33, 104, 33, 32, 120, 45, 10, 45, 45, 45, 10]⟩ : ByteArray)] from rfl) (Reps.none _ _))))))); intro v362 w42 ho43 hb hg_ hnew_; clear hg_ hnew_; (first | rw [← Ny361.out] at ho43 | (simp only [Int.reduceToNat] at ho43; rw [← Ny361.out] at ho43)); have n0_ := Aside0.mk (Kd.R_lower ho43 (keep_size (w := w) (g := g) (row := none) (by repeat (first | (with_reducible first | exact HK.out | apply KeepBut.set_ | apply keep_drewN | apply keep_drew | apply keep_alloc) | exact HK.out)))); have n1_ := Aside0.mk (IsS35.below (by repeat (first | (with_reducible first | exact HI0.out | apply IsS35.alloc | apply IsS35.drewN | apply IsS35.drew | apply IsS35.set_1 | apply IsS35.set_2) | exact HI0.out)) hb); have n2_ := Aside0.mk (KeepBut.trans (by repeat (first | (with_reducible first | exact HK.out | apply KeepBut.set_ | apply keep_drewN | apply keep_drew | apply keep_alloc) | exact HK.out)) (KeepBut.of_below hb g none) (.inl rfl)); have n3_ := Aside0.mk (below_step (by repeat (first | (with_reducible first | exact HB.out | apply below_alloc | apply pw_below_drewN | apply below_drew1 | refine below_set ?_ (IsS35.ge HI0.out)) | exact HB.out)) hb); clear HI0; clear HK; clear HB; have HO363 := n0_; have HI0 := n1_; have HK := n2_; have HB := n3_; clear n0_ n1_ n2_ n3_; clear hb ho43; obtain ⟨Ao44, co44, eo44⟩ := Kd.R_slice HO363.out; subst eo44) | ((with_reducible refine gate_callee (f := 28) rfl ?_); refine goesL_ (some 41) rfl rfl Try.func28 (by kernel_rfl) rfl #[.pointer (some ⟨g, 0, none⟩), .slice Ao44 y361.length co44] rfl (by (try simp only [List.map_toArray, List.map_cons, List.map_nil]); first | done | rfl | (simp only [List.length_drop, List.length_take]; rfl)) ?_; (with_reducible refine (spec_l01Of.calls g s0_0 t359 t360 _ _ y361 t364 t365 t366 w0 _ ?side1 ?side2 ?side3 ?side4 ?side5 A38.out).mono ?_); (case side1 => repeat (first | (with_reducible first | exact HI0.out | apply IsS35.alloc | apply IsS35.drewN | apply IsS35.drew | apply IsS35.set_1 | apply IsS35.set_2) | exact HI0.out)); (case side2 => repeat (first | (with_reducible first | exact HB.out | apply below_alloc | apply pw_below_drewN | apply below_drew1 | refine below_set ?_ (IsS35.ge HI0.out)) | exact HB.out)); (case side3 => repeat (first | exact (Kd.R_reads' HO363.out).2.2 | (with_reducible refine Kd.C_alloc ?_ _) | (with_reducible refine Kd.C_drewN ?_ _) | (with_reducible refine Kd.C_drew ?_))); (case side4 => exact (Kd.R_reads' HO363.out).2.1); (case side5 => exact far_slice (IsS35.own_ne HI0.out HO363.out (by decide))); rintro e w45 ⟨rfl, hi, hb, hk⟩; refine ⟨_, rfl, ?_⟩; have n0_ := Aside0.mk (Kd.R_mono (Kd.R_keep (IsS35.apart (show IsS35 w0 _ g s0_0 t359 t360 from by repeat (first | (with_reducible first | exact HI0.out | apply IsS35.alloc | apply IsS35.drewN | apply IsS35.drew | apply IsS35.set_1 | apply IsS35.set_2) | exact HI0.out)) (by (with_reducible repeat (first | apply Kd.R_alloc | apply Kd.R_drewN | apply Kd.R_drew)); exact HO363.out) (by decide)) hk (fun _ h => h.2)) (fun _ h => h.1)); have n1_ := Aside0.mk (KeepBut.trans (by repeat (first | (with_reducible first | exact HK.out | apply KeepBut.set_ | apply keep_drewN | apply keep_drew | apply keep_alloc) | exact HK.out)) hk (.inl rfl)); have n2_ := Aside0.mk (hb); have n3_ := Aside0.mk (hi); clear HO363; clear HK; clear HB; clear HI0; have HO363 := n0_; have HK := n1_; have HB := n2_; have HI0 := n3_; clear n0_ n1_ n2_ n3_; (try clear hb); (try clear hb2); (try clear hk); (try clear hi)))
                  go_roundg k1
                  case measure => have := HK1.out; omega
                  case rel => exact ⟨(((x3_1 ++ t358) ++ (⟨#[10]⟩ : ByteArray)) ++ t364), (wrap64 (x4_1 - 1)), (t365), (t366), (by first | rfl | (simp; done) | (simp [*]; done)), (by first | rfl | (simp; done) | (simp [*]; done)), H', ⟨by have := HK1.out; omega⟩, ⟨by repeat (first | (with_reducible first | exact HI0.out | apply IsS35.alloc | apply IsS35.drewN | apply IsS35.drew | apply IsS35.set_1 | apply IsS35.set_2) | exact HI0.out)⟩, ⟨by repeat (first | (with_reducible first | exact HK.out | apply KeepBut.set_ | apply keep_drewN | apply keep_drew | apply keep_alloc) | exact HK.out)⟩, ⟨by repeat (first | (with_reducible first | exact HB.out | apply below_alloc | apply pw_below_drewN | apply below_drew1 | refine below_set ?_ (IsS35.ge HI0.out)) | exact HB.out)⟩⟩
                · rw [if_neg c39] at H
                  exact absurd H (by simp)
              · rw [if_neg c37] at H
                exact absurd H (by simp)
            · rw [if_neg c36] at H
              exact absurd H (by simp)
      · rw [if_neg c9] at H
        have c9b0 : decide (0 < x4_1) = false := decide_eq_false c9
        clear c9
        replace H := Option.bind_eq_some_iff.mp H
        obtain ⟨⟨t334, t335, t336⟩, A460, H⟩ := H
        replace H : (if x3_1.size + t334.size ≤ 9223372036854775807 then (some (x3_1 ++ t334, t335, t336)) else (none)) = some (r1, r2, r3) := H
        have A46 := Aside0.mk A460
        clear A460
        by_cases c47 : x3_1.size + t334.size ≤ 9223372036854775807
        · rw [if_pos c47] at H
          have c47b0 := eq_true c47
          have c47b1 : decide (x3_1.size + t334.size ≤ 9223372036854775807) = true := decide_eq_true c47
          try have c47b2 : (9223372036854775807 < x3_1.size + t334.size) = False := eq_false (Nat.not_lt.2 c47)
          try (have c47b4 := c47b2; simp only [ByteArray.size_extract, Nat.min_self] at c47b4)
          simp only [Option.some.injEq, Prod.mk.injEq] at H
          obtain ⟨rfl, rfl, rfl⟩ := H
          go_wp2_with (first | ((with_reducible refine gate_callee (f := 31) rfl ?_); refine goesL_ (some 45) rfl rfl Try.func31 (by kernel_rfl) rfl #[.pointer (some ⟨g, 0, none⟩), .int .i64 0, .int .i64 2] rfl (by (try simp only [List.map_toArray, List.map_cons, List.map_nil]); first | done | rfl | (simp only [List.length_drop, List.length_take]; rfl)) ?_; (with_reducible refine (spec_l11Draw.calls k1 g s0_0 x1001_1 x1002_1 0 2 t334 t335 t336 w0 _ ?side1 ?side2 A46.out).mono ?_); (case side1 => repeat (first | (with_reducible first | exact HI0.out | apply IsS35.alloc | apply IsS35.drewN | apply IsS35.drew | apply IsS35.set_1 | apply IsS35.set_2) | exact HI0.out)); (case side2 => repeat (first | (with_reducible first | exact HB.out | apply below_alloc | apply pw_below_drewN | apply below_drew1 | refine below_set ?_ (IsS35.ge HI0.out)) | exact HB.out)); rintro e w48 ⟨rfl, hi, hb, hk⟩; refine ⟨_, rfl, ?_⟩; have n0_ := Aside0.mk (KeepBut.trans (by repeat (first | (with_reducible first | exact HK.out | apply KeepBut.set_ | apply keep_drewN | apply keep_drew | apply keep_alloc) | exact HK.out)) hk (.inl rfl)); have n1_ := Aside0.mk (hb); have n2_ := Aside0.mk (hi); clear HK; clear HB; clear HI0; have HK := n0_; have HB := n1_; have HI0 := n2_; clear n0_ n1_ n2_; (try clear hb); (try clear hb2); (try clear hk); (try clear hi)))
          go_ret
          exact ⟨by first | rfl | (simp [errW_none, errW_some] <;> rfl) | (simp [*, errW_none, errW_some] <;> rfl), by repeat (first | (with_reducible first | exact HI0.out | apply IsS35.alloc | apply IsS35.drewN | apply IsS35.drew | apply IsS35.set_1 | apply IsS35.set_2) | exact HI0.out), by repeat (first | (with_reducible first | exact HB.out | apply below_alloc | apply pw_below_drewN | apply below_drew1 | refine below_set ?_ (IsS35.ge HI0.out)) | exact HB.out), by repeat (first | (with_reducible first | exact HK.out | apply KeepBut.set_ | apply keep_drewN | apply keep_drew | apply keep_alloc) | exact HK.out)⟩
        · rw [if_neg c47] at H
          exact absurd H (by simp)

/-! ### spec_l12Any: function 15 -/
def spec_l12Any.f (k : Nat) (s0_0 : List Int) (s0_1 : Int) (s0_2 : Int) : Option (ByteArray × Int × Int) := (spec_l01Below.f s0_0 s0_1 s0_2 6).bind fun bt367 => (if bt367.1 = 0 then ((spec_l01Mess.f k s0_0 bt367.2.1 bt367.2.2 12).bind fun bt370 => (some (bt370.1, bt370.2.1, bt370.2.2))) else ((spec_l12Draw.f k s0_0 bt367.2.1 bt367.2.2).bind fun bt373 => ((spec_l10Spoil.f k s0_0 bt373.2.1 bt373.2.2 bt373.1).bind fun bt376 => (some (bt376.1, bt376.2.1, bt376.2.2)))))
theorem spec_l12Any.mono : ∀ a0 a1 a2 k, LeO (spec_l12Any.f k a0 a1 a2) (spec_l12Any.f (k + 1) a0 a1 a2) := by
  intro a0 a1 a2 k
  unfold spec_l12Any.f
  repeat' first
      | (with_reducible exact spec_l01Mess.mono _ _ _ _ _)
      | (with_reducible exact spec_l10Spoil.mono _ _ _ _ _)
      | (with_reducible exact spec_l12Draw.mono _ _ _ _)
      | (with_reducible exact LeO.refl _)
      | (with_reducible exact LeO.none _)
      | (with_reducible refine LeO.ite ?_ ?_)
      | (with_reducible refine LeO.bind ?_ (fun _ => ?_))
      | exact spec_l01Mess.mono _ _ _ _ _
      | exact spec_l10Spoil.mono _ _ _ _ _
      | exact spec_l12Draw.mono _ _ _ _
      | exact LeO.none _
      | refine LeO.ite ?_ ?_
      | refine LeO.bind ?_ (fun _ => ?_)
set_option maxHeartbeats 8000000 in
set_option maxRecDepth 100000 in
theorem spec_l12Any.calls (k : Nat) (g : Nat) (s0_0 : List Int) (s0_1 : Int) (s0_2 : Int) (r1 : ByteArray) (r2 : Int) (r3 : Int) (w0 w : World) (hI : IsS35 w0 w g s0_0 s0_1 s0_2) (hB : Below w0.heap.size w0 w) (h : spec_l12Any.f k s0_0 s0_1 s0_2 = some (r1, r2, r3)) :
    Calls Try.prog 15 #[.pointer (some ⟨g, 0, none⟩)] w fun e w' => e = .returned (.string r1) ∧ IsS35 w0 w' g s0_0 r2 r3 ∧ Below w0.heap.size w0 w' ∧ KeepBut w w' g none := by
  have HI0 := Aside0.mk hI
  have HK := Aside0.mk (KeepBut.refl w g none)
  have HL := Aside0.mk hB.size
  clear hI
  have HW0 := Aside0.mk hB.size
  have HB := Aside0.mk hB
  clear hB
  have H : ((spec_l01Below.f s0_0 s0_1 s0_2 6).bind fun bt367 => (if bt367.1 = 0 then ((spec_l01Mess.f k s0_0 bt367.2.1 bt367.2.2 12).bind fun bt370 => (some (bt370.1, bt370.2.1, bt370.2.2))) else ((spec_l12Draw.f k s0_0 bt367.2.1 bt367.2.2).bind fun bt373 => ((spec_l10Spoil.f k s0_0 bt373.2.1 bt373.2.2 bt373.1).bind fun bt376 => (some (bt376.1, bt376.2.1, bt376.2.2)))))) = some (r1, r2, r3) := h
  clear h
  replace H := Option.bind_eq_some_iff.mp H
  obtain ⟨⟨t367, t368, t369⟩, A20, H⟩ := H
  replace H : (if t367 = 0 then ((spec_l01Mess.f k s0_0 t368 t369 12).bind fun bt370 => (some (bt370.1, bt370.2.1, bt370.2.2))) else ((spec_l12Draw.f k s0_0 t368 t369).bind fun bt373 => ((spec_l10Spoil.f k s0_0 bt373.2.1 bt373.2.2 bt373.1).bind fun bt376 => (some (bt376.1, bt376.2.1, bt376.2.2))))) = some (r1, r2, r3) := H
  have A2 := Aside0.mk A20
  clear A20
  by_cases c3 : t367 = 0
  · rw [if_pos c3] at H
    have c3b0 : (t367 == 0) = true := beq_iff_eq.mpr c3
    have c3b1 : (t367 != 0) = false := bne_eq_false_iff_eq.mpr c3
    clear c3
    replace H := Option.bind_eq_some_iff.mp H
    obtain ⟨⟨t370, t371, t372⟩, A40, H⟩ := H
    replace H : (some (t370, t371, t372)) = some (r1, r2, r3) := H
    have A4 := Aside0.mk A40
    clear A40
    simp only [Option.some.injEq, Prod.mk.injEq] at H
    obtain ⟨rfl, rfl, rfl⟩ := H
    go_enter Try.func15, Try.ntmps15
    go_wp2_with (first | ((with_reducible refine gate_callee (f := 16) rfl ?_); refine goesL_ (some 4) rfl rfl Try.func16 (by kernel_rfl) rfl #[.pointer (some ⟨g, 0, none⟩), .int .i64 6] rfl (by (try simp only [List.map_toArray, List.map_cons, List.map_nil]); first | done | rfl | (simp only [List.length_drop, List.length_take]; rfl)) ?_; (with_reducible refine (spec_l01Below.calls g s0_0 s0_1 s0_2 6 t367 t368 t369 w0 _ ?side1 ?side2 A2.out).mono ?_); (case side1 => repeat (first | (with_reducible first | exact HI0.out | apply IsS35.alloc | apply IsS35.drewN | apply IsS35.drew | apply IsS35.set_1 | apply IsS35.set_2) | exact HI0.out)); (case side2 => repeat (first | (with_reducible first | exact HB.out | apply below_alloc | apply pw_below_drewN | apply below_drew1 | refine below_set ?_ (IsS35.ge HI0.out)) | exact HB.out)); rintro e w5 ⟨rfl, hi, hb, hk⟩; refine ⟨_, rfl, ?_⟩; have n0_ := Aside0.mk (KeepBut.trans (by repeat (first | (with_reducible first | exact HK.out | apply KeepBut.set_ | apply keep_drewN | apply keep_drew | apply keep_alloc) | exact HK.out)) hk (.inl rfl)); have n1_ := Aside0.mk (hb); have n2_ := Aside0.mk (hi); clear HK; clear HB; clear HI0; have HK := n0_; have HB := n1_; have HI0 := n2_; clear n0_ n1_ n2_; (try clear hb); (try clear hb2); (try clear hk); (try clear hi)) | ((with_reducible refine gate_callee (f := 24) rfl ?_); refine goesL_ (some 7) rfl rfl Try.func24 (by kernel_rfl) rfl #[.pointer (some ⟨g, 0, none⟩), .int .i64 12] rfl (by (try simp only [List.map_toArray, List.map_cons, List.map_nil]); first | done | rfl | (simp only [List.length_drop, List.length_take]; rfl)) ?_; (with_reducible refine (spec_l01Mess.calls k g s0_0 t368 t369 12 t370 t371 t372 w0 _ ?side1 ?side2 A4.out).mono ?_); (case side1 => repeat (first | (with_reducible first | exact HI0.out | apply IsS35.alloc | apply IsS35.drewN | apply IsS35.drew | apply IsS35.set_1 | apply IsS35.set_2) | exact HI0.out)); (case side2 => repeat (first | (with_reducible first | exact HB.out | apply below_alloc | apply pw_below_drewN | apply below_drew1 | refine below_set ?_ (IsS35.ge HI0.out)) | exact HB.out)); rintro e w6 ⟨rfl, hi, hb, hk⟩; refine ⟨_, rfl, ?_⟩; have n0_ := Aside0.mk (KeepBut.trans (by repeat (first | (with_reducible first | exact HK.out | apply KeepBut.set_ | apply keep_drewN | apply keep_drew | apply keep_alloc) | exact HK.out)) hk (.inl rfl)); have n1_ := Aside0.mk (hb); have n2_ := Aside0.mk (hi); clear HK; clear HB; clear HI0; have HK := n0_; have HB := n1_; have HI0 := n2_; clear n0_ n1_ n2_; (try clear hb); (try clear hb2); (try clear hk); (try clear hi)))
    go_ret
    exact ⟨by first | rfl | (simp [errW_none, errW_some] <;> rfl) | (simp [*, errW_none, errW_some] <;> rfl), by repeat (first | (with_reducible first | exact HI0.out | apply IsS35.alloc | apply IsS35.drewN | apply IsS35.drew | apply IsS35.set_1 | apply IsS35.set_2) | exact HI0.out), by repeat (first | (with_reducible first | exact HB.out | apply below_alloc | apply pw_below_drewN | apply below_drew1 | refine below_set ?_ (IsS35.ge HI0.out)) | exact HB.out), by repeat (first | (with_reducible first | exact HK.out | apply KeepBut.set_ | apply keep_drewN | apply keep_drew | apply keep_alloc) | exact HK.out)⟩
  · rw [if_neg c3] at H
    have c3b0 : (t367 == 0) = false := beq_eq_false_iff_ne.mpr c3
    have c3b1 : (t367 != 0) = true := bne_iff_ne.mpr c3
    replace H := Option.bind_eq_some_iff.mp H
    obtain ⟨⟨t373, t374, t375⟩, A70, H⟩ := H
    replace H : ((spec_l10Spoil.f k s0_0 t374 t375 t373).bind fun bt376 => (some (bt376.1, bt376.2.1, bt376.2.2))) = some (r1, r2, r3) := H
    have A7 := Aside0.mk A70
    clear A70
    replace H := Option.bind_eq_some_iff.mp H
    obtain ⟨⟨t376, t377, t378⟩, A80, H⟩ := H
    replace H : (some (t376, t377, t378)) = some (r1, r2, r3) := H
    have A8 := Aside0.mk A80
    clear A80
    simp only [Option.some.injEq, Prod.mk.injEq] at H
    obtain ⟨rfl, rfl, rfl⟩ := H
    go_enter Try.func15, Try.ntmps15
    go_wp2_with (first | ((with_reducible refine gate_callee (f := 16) rfl ?_); refine goesL_ (some 4) rfl rfl Try.func16 (by kernel_rfl) rfl #[.pointer (some ⟨g, 0, none⟩), .int .i64 6] rfl (by (try simp only [List.map_toArray, List.map_cons, List.map_nil]); first | done | rfl | (simp only [List.length_drop, List.length_take]; rfl)) ?_; (with_reducible refine (spec_l01Below.calls g s0_0 s0_1 s0_2 6 t367 t368 t369 w0 _ ?side1 ?side2 A2.out).mono ?_); (case side1 => repeat (first | (with_reducible first | exact HI0.out | apply IsS35.alloc | apply IsS35.drewN | apply IsS35.drew | apply IsS35.set_1 | apply IsS35.set_2) | exact HI0.out)); (case side2 => repeat (first | (with_reducible first | exact HB.out | apply below_alloc | apply pw_below_drewN | apply below_drew1 | refine below_set ?_ (IsS35.ge HI0.out)) | exact HB.out)); rintro e w9 ⟨rfl, hi, hb, hk⟩; refine ⟨_, rfl, ?_⟩; have n0_ := Aside0.mk (KeepBut.trans (by repeat (first | (with_reducible first | exact HK.out | apply KeepBut.set_ | apply keep_drewN | apply keep_drew | apply keep_alloc) | exact HK.out)) hk (.inl rfl)); have n1_ := Aside0.mk (hb); have n2_ := Aside0.mk (hi); clear HK; clear HB; clear HI0; have HK := n0_; have HB := n1_; have HI0 := n2_; clear n0_ n1_ n2_; (try clear hb); (try clear hb2); (try clear hk); (try clear hi)) | ((with_reducible refine gate_callee (f := 26) rfl ?_); refine goesL_ (some 10) rfl rfl Try.func26 (by kernel_rfl) rfl #[.pointer (some ⟨g, 0, none⟩)] rfl (by (try simp only [List.map_toArray, List.map_cons, List.map_nil]); first | done | rfl | (simp only [List.length_drop, List.length_take]; rfl)) ?_; (with_reducible refine (spec_l12Draw.calls k g s0_0 t368 t369 t373 t374 t375 w0 _ ?side1 ?side2 A7.out).mono ?_); (case side1 => repeat (first | (with_reducible first | exact HI0.out | apply IsS35.alloc | apply IsS35.drewN | apply IsS35.drew | apply IsS35.set_1 | apply IsS35.set_2) | exact HI0.out)); (case side2 => repeat (first | (with_reducible first | exact HB.out | apply below_alloc | apply pw_below_drewN | apply below_drew1 | refine below_set ?_ (IsS35.ge HI0.out)) | exact HB.out)); rintro e w10 ⟨rfl, hi, hb, hk⟩; refine ⟨_, rfl, ?_⟩; have n0_ := Aside0.mk (KeepBut.trans (by repeat (first | (with_reducible first | exact HK.out | apply KeepBut.set_ | apply keep_drewN | apply keep_drew | apply keep_alloc) | exact HK.out)) hk (.inl rfl)); have n1_ := Aside0.mk (hb); have n2_ := Aside0.mk (hi); clear HK; clear HB; clear HI0; have HK := n0_; have HB := n1_; have HI0 := n2_; clear n0_ n1_ n2_; (try clear hb); (try clear hb2); (try clear hk); (try clear hi)) | ((with_reducible refine gate_callee (f := 25) rfl ?_); refine goesL_ (some 11) rfl rfl Try.func25 (by kernel_rfl) rfl #[.pointer (some ⟨g, 0, none⟩), .string t373] rfl (by (try simp only [List.map_toArray, List.map_cons, List.map_nil]); first | done | rfl | (simp only [List.length_drop, List.length_take]; rfl)) ?_; (with_reducible refine (spec_l10Spoil.calls k g s0_0 t374 t375 t373 t376 t377 t378 w0 _ ?side1 ?side2 A8.out).mono ?_); (case side1 => repeat (first | (with_reducible first | exact HI0.out | apply IsS35.alloc | apply IsS35.drewN | apply IsS35.drew | apply IsS35.set_1 | apply IsS35.set_2) | exact HI0.out)); (case side2 => repeat (first | (with_reducible first | exact HB.out | apply below_alloc | apply pw_below_drewN | apply below_drew1 | refine below_set ?_ (IsS35.ge HI0.out)) | exact HB.out)); rintro e w11 ⟨rfl, hi, hb, hk⟩; refine ⟨_, rfl, ?_⟩; have n0_ := Aside0.mk (KeepBut.trans (by repeat (first | (with_reducible first | exact HK.out | apply KeepBut.set_ | apply keep_drewN | apply keep_drew | apply keep_alloc) | exact HK.out)) hk (.inl rfl)); have n1_ := Aside0.mk (hb); have n2_ := Aside0.mk (hi); clear HK; clear HB; clear HI0; have HK := n0_; have HB := n1_; have HI0 := n2_; clear n0_ n1_ n2_; (try clear hb); (try clear hb2); (try clear hk); (try clear hi)))
    go_ret
    exact ⟨by first | rfl | (simp [errW_none, errW_some] <;> rfl) | (simp [*, errW_none, errW_some] <;> rfl), by repeat (first | (with_reducible first | exact HI0.out | apply IsS35.alloc | apply IsS35.drewN | apply IsS35.drew | apply IsS35.set_1 | apply IsS35.set_2) | exact HI0.out), by repeat (first | (with_reducible first | exact HB.out | apply below_alloc | apply pw_below_drewN | apply below_drew1 | refine below_set ?_ (IsS35.ge HI0.out)) | exact HB.out), by repeat (first | (with_reducible first | exact HK.out | apply KeepBut.set_ | apply keep_drewN | apply keep_drew | apply keep_alloc) | exact HK.out)⟩

/-! ### spec_l16Text: function 17 -/
def spec_l16Text.f (k : Nat) (s0_0 : List Int) (s0_1 : Int) (s0_2 : Int) : Option (ByteArray × Int × Int) := (spec_l01Below.f s0_0 s0_1 s0_2 6).bind fun bt379 => (if bt379.1 < 2 then ((spec_l12Any.f k s0_0 bt379.2.1 bt379.2.2).bind fun bt382 => (some (bt382.1, bt382.2.1, bt382.2.2))) else ((spec_l01Of.f s0_0 bt379.2.1 bt379.2.2 (([(⟨#[97, 58, 32, 38, 97, 32, 91, 49, 44, 32, 123, 107, 58, 32, 38, 98, 32, 118, 44, 32, 108, 58, 32, 42, 98, 125, 93, 10, 98, 58, 32, 42, 97, 10, 99, 58, 10, 32, 32, 45, 32, 42, 97, 10, 32, 32, 45, 32, 38, 97, 32, 120, 10, 32, 32, 45, 32, 42, 97, 10]⟩ : ByteArray), (⟨#[45, 32, 38, 98, 32, 123, 112, 58, 32, 113, 125, 10, 45, 32, 38, 97, 32, 91, 42, 98, 44, 32, 42, 98, 93, 10, 45, 32, 91, 42, 97, 44, 32, 42, 97, 93, 10, 45, 32, 42, 97, 10]⟩ : ByteArray), (⟨#[38, 97, 32, 107, 101, 121, 58, 32, 38, 98, 10, 32, 32, 45, 32, 49, 10, 32, 32, 45, 32, 116, 119, 111, 10, 42, 97, 32, 58, 32, 42, 98, 10]⟩ : ByteArray), (⟨#[45, 45, 45, 32, 38, 97, 32, 49, 10, 45, 45, 45, 32, 91, 38, 97, 32, 91, 93, 44, 32, 42, 97, 44, 32, 91, 42, 97, 93, 93, 10, 46, 46, 46, 10]⟩ : ByteArray), (⟨#[38, 97, 32, 107, 58, 32, 118, 10, 120, 58, 32, 123, 97, 58, 32, 91, 98, 44, 32, 99, 44, 32, 123, 100, 58, 32, 42, 97, 125, 93, 125, 10]⟩ : ByteArray), (⟨#[45, 32, 97, 10, 45, 32, 98, 58, 32, 91, 99, 44, 32, 100, 10]⟩ : ByteArray), (⟨#[120, 58, 32, 38, 97, 10, 32, 32, 121, 58, 32, 38, 98, 32, 91, 49, 44, 32, 42, 113, 93, 10]⟩ : ByteArray), (⟨#[91, 38, 97, 32, 91, 91, 38, 98, 32, 91, 93, 93, 93, 44, 32, 42, 97, 44, 32, 42, 98, 44, 32, 123, 107, 58, 32, 42, 97, 125, 93]⟩ : ByteArray)] : List ByteArray))).bind fun bt388 => (if bt379.1 = 2 then ((spec_l10Spoil.f k s0_0 bt388.2.1 bt388.2.2 bt388.1).bind fun bt391 => (some (bt391.1, bt391.2.1, bt391.2.2))) else (some (bt388.1, bt388.2.1, bt388.2.2)))))
theorem spec_l16Text.mono : ∀ a0 a1 a2 k, LeO (spec_l16Text.f k a0 a1 a2) (spec_l16Text.f (k + 1) a0 a1 a2) := by
  intro a0 a1 a2 k
  unfold spec_l16Text.f
  repeat' first
      | (with_reducible exact spec_l10Spoil.mono _ _ _ _ _)
      | (with_reducible exact spec_l12Any.mono _ _ _ _)
      | (with_reducible exact LeO.refl _)
      | (with_reducible exact LeO.none _)
      | (with_reducible refine LeO.ite ?_ ?_)
      | (with_reducible refine LeO.bind ?_ (fun _ => ?_))
      | exact spec_l10Spoil.mono _ _ _ _ _
      | exact spec_l12Any.mono _ _ _ _
      | exact LeO.none _
      | refine LeO.ite ?_ ?_
      | refine LeO.bind ?_ (fun _ => ?_)
set_option maxHeartbeats 8000000 in
set_option maxRecDepth 100000 in
theorem spec_l16Text.calls (k : Nat) (g : Nat) (s0_0 : List Int) (s0_1 : Int) (s0_2 : Int) (r1 : ByteArray) (r2 : Int) (r3 : Int) (w0 w : World) (hI : IsS35 w0 w g s0_0 s0_1 s0_2) (hB : Below w0.heap.size w0 w) (h : spec_l16Text.f k s0_0 s0_1 s0_2 = some (r1, r2, r3)) :
    Calls Try.prog 17 #[.pointer (some ⟨g, 0, none⟩)] w fun e w' => e = .returned (.string r1) ∧ IsS35 w0 w' g s0_0 r2 r3 ∧ Below w0.heap.size w0 w' ∧ KeepBut w w' g none := by
  have HI0 := Aside0.mk hI
  have HK := Aside0.mk (KeepBut.refl w g none)
  have HL := Aside0.mk hB.size
  clear hI
  have HW0 := Aside0.mk hB.size
  have HB := Aside0.mk hB
  clear hB
  have H : ((spec_l01Below.f s0_0 s0_1 s0_2 6).bind fun bt379 => (if bt379.1 < 2 then ((spec_l12Any.f k s0_0 bt379.2.1 bt379.2.2).bind fun bt382 => (some (bt382.1, bt382.2.1, bt382.2.2))) else ((spec_l01Of.f s0_0 bt379.2.1 bt379.2.2 (([(⟨#[97, 58, 32, 38, 97, 32, 91, 49, 44, 32, 123, 107, 58, 32, 38, 98, 32, 118, 44, 32, 108, 58, 32, 42, 98, 125, 93, 10, 98, 58, 32, 42, 97, 10, 99, 58, 10, 32, 32, 45, 32, 42, 97, 10, 32, 32, 45, 32, 38, 97, 32, 120, 10, 32, 32, 45, 32, 42, 97, 10]⟩ : ByteArray), (⟨#[45, 32, 38, 98, 32, 123, 112, 58, 32, 113, 125, 10, 45, 32, 38, 97, 32, 91, 42, 98, 44, 32, 42, 98, 93, 10, 45, 32, 91, 42, 97, 44, 32, 42, 97, 93, 10, 45, 32, 42, 97, 10]⟩ : ByteArray), (⟨#[38, 97, 32, 107, 101, 121, 58, 32, 38, 98, 10, 32, 32, 45, 32, 49, 10, 32, 32, 45, 32, 116, 119, 111, 10, 42, 97, 32, 58, 32, 42, 98, 10]⟩ : ByteArray), (⟨#[45, 45, 45, 32, 38, 97, 32, 49, 10, 45, 45, 45, 32, 91, 38, 97, 32, 91, 93, 44, 32, 42, 97, 44, 32, 91, 42, 97, 93, 93, 10, 46, 46, 46, 10]⟩ : ByteArray), (⟨#[38, 97, 32, 107, 58, 32, 118, 10, 120, 58, 32, 123, 97, 58, 32, 91, 98, 44, 32, 99, 44, 32, 123, 100, 58, 32, 42, 97, 125, 93, 125, 10]⟩ : ByteArray), (⟨#[45, 32, 97, 10, 45, 32, 98, 58, 32, 91, 99, 44, 32, 100, 10]⟩ : ByteArray), (⟨#[120, 58, 32, 38, 97, 10, 32, 32, 121, 58, 32, 38, 98, 32, 91, 49, 44, 32, 42, 113, 93, 10]⟩ : ByteArray), (⟨#[91, 38, 97, 32, 91, 91, 38, 98, 32, 91, 93, 93, 93, 44, 32, 42, 97, 44, 32, 42, 98, 44, 32, 123, 107, 58, 32, 42, 97, 125, 93]⟩ : ByteArray)] : List ByteArray))).bind fun bt388 => (if bt379.1 = 2 then ((spec_l10Spoil.f k s0_0 bt388.2.1 bt388.2.2 bt388.1).bind fun bt391 => (some (bt391.1, bt391.2.1, bt391.2.2))) else (some (bt388.1, bt388.2.1, bt388.2.2)))))) = some (r1, r2, r3) := h
  clear h
  replace H := Option.bind_eq_some_iff.mp H
  obtain ⟨⟨t379, t380, t381⟩, A20, H⟩ := H
  replace H : (if t379 < 2 then ((spec_l12Any.f k s0_0 t380 t381).bind fun bt382 => (some (bt382.1, bt382.2.1, bt382.2.2))) else ((spec_l01Of.f s0_0 t380 t381 (([(⟨#[97, 58, 32, 38, 97, 32, 91, 49, 44, 32, 123, 107, 58, 32, 38, 98, 32, 118, 44, 32, 108, 58, 32, 42, 98, 125, 93, 10, 98, 58, 32, 42, 97, 10, 99, 58, 10, 32, 32, 45, 32, 42, 97, 10, 32, 32, 45, 32, 38, 97, 32, 120, 10, 32, 32, 45, 32, 42, 97, 10]⟩ : ByteArray), (⟨#[45, 32, 38, 98, 32, 123, 112, 58, 32, 113, 125, 10, 45, 32, 38, 97, 32, 91, 42, 98, 44, 32, 42, 98, 93, 10, 45, 32, 91, 42, 97, 44, 32, 42, 97, 93, 10, 45, 32, 42, 97, 10]⟩ : ByteArray), (⟨#[38, 97, 32, 107, 101, 121, 58, 32, 38, 98, 10, 32, 32, 45, 32, 49, 10, 32, 32, 45, 32, 116, 119, 111, 10, 42, 97, 32, 58, 32, 42, 98, 10]⟩ : ByteArray), (⟨#[45, 45, 45, 32, 38, 97, 32, 49, 10, 45, 45, 45, 32, 91, 38, 97, 32, 91, 93, 44, 32, 42, 97, 44, 32, 91, 42, 97, 93, 93, 10, 46, 46, 46, 10]⟩ : ByteArray), (⟨#[38, 97, 32, 107, 58, 32, 118, 10, 120, 58, 32, 123, 97, 58, 32, 91, 98, 44, 32, 99, 44, 32, 123, 100, 58, 32, 42, 97, 125, 93, 125, 10]⟩ : ByteArray), (⟨#[45, 32, 97, 10, 45, 32, 98, 58, 32, 91, 99, 44, 32, 100, 10]⟩ : ByteArray), (⟨#[120, 58, 32, 38, 97, 10, 32, 32, 121, 58, 32, 38, 98, 32, 91, 49, 44, 32, 42, 113, 93, 10]⟩ : ByteArray), (⟨#[91, 38, 97, 32, 91, 91, 38, 98, 32, 91, 93, 93, 93, 44, 32, 42, 97, 44, 32, 42, 98, 44, 32, 123, 107, 58, 32, 42, 97, 125, 93]⟩ : ByteArray)] : List ByteArray))).bind fun bt388 => (if t379 = 2 then ((spec_l10Spoil.f k s0_0 bt388.2.1 bt388.2.2 bt388.1).bind fun bt391 => (some (bt391.1, bt391.2.1, bt391.2.2))) else (some (bt388.1, bt388.2.1, bt388.2.2))))) = some (r1, r2, r3) := H
  have A2 := Aside0.mk A20
  clear A20
  by_cases c3 : t379 < 2
  · rw [if_pos c3] at H
    have c3b0 : decide (t379 < 2) = true := decide_eq_true c3
    clear c3
    replace H := Option.bind_eq_some_iff.mp H
    obtain ⟨⟨t382, t383, t384⟩, A40, H⟩ := H
    replace H : (some (t382, t383, t384)) = some (r1, r2, r3) := H
    have A4 := Aside0.mk A40
    clear A40
    simp only [Option.some.injEq, Prod.mk.injEq] at H
    obtain ⟨rfl, rfl, rfl⟩ := H
    go_enter Try.func17, Try.ntmps17
    go_wp2_with (first | ((with_reducible refine gate_callee (f := 16) rfl ?_); refine goesL_ (some 6) rfl rfl Try.func16 (by kernel_rfl) rfl #[.pointer (some ⟨g, 0, none⟩), .int .i64 6] rfl (by (try simp only [List.map_toArray, List.map_cons, List.map_nil]); first | done | rfl | (simp only [List.length_drop, List.length_take]; rfl)) ?_; (with_reducible refine (spec_l01Below.calls g s0_0 s0_1 s0_2 6 t379 t380 t381 w0 _ ?side1 ?side2 A2.out).mono ?_); (case side1 => repeat (first | (with_reducible first | exact HI0.out | apply IsS35.alloc | apply IsS35.drewN | apply IsS35.drew | apply IsS35.set_1 | apply IsS35.set_2) | exact HI0.out)); (case side2 => repeat (first | (with_reducible first | exact HB.out | apply below_alloc | apply pw_below_drewN | apply below_drew1 | refine below_set ?_ (IsS35.ge HI0.out)) | exact HB.out)); rintro e w5 ⟨rfl, hi, hb, hk⟩; refine ⟨_, rfl, ?_⟩; have n0_ := Aside0.mk (KeepBut.trans (by repeat (first | (with_reducible first | exact HK.out | apply KeepBut.set_ | apply keep_drewN | apply keep_drew | apply keep_alloc) | exact HK.out)) hk (.inl rfl)); have n1_ := Aside0.mk (hb); have n2_ := Aside0.mk (hi); clear HK; clear HB; clear HI0; have HK := n0_; have HB := n1_; have HI0 := n2_; clear n0_ n1_ n2_; (try clear hb); (try clear hb2); (try clear hk); (try clear hi)) | ((with_reducible refine gate_callee (f := 15) rfl ?_); refine goesL_ (some 10) rfl rfl Try.func15 (by kernel_rfl) rfl #[.pointer (some ⟨g, 0, none⟩)] rfl (by (try simp only [List.map_toArray, List.map_cons, List.map_nil]); first | done | rfl | (simp only [List.length_drop, List.length_take]; rfl)) ?_; (with_reducible refine (spec_l12Any.calls k g s0_0 t380 t381 t382 t383 t384 w0 _ ?side1 ?side2 A4.out).mono ?_); (case side1 => repeat (first | (with_reducible first | exact HI0.out | apply IsS35.alloc | apply IsS35.drewN | apply IsS35.drew | apply IsS35.set_1 | apply IsS35.set_2) | exact HI0.out)); (case side2 => repeat (first | (with_reducible first | exact HB.out | apply below_alloc | apply pw_below_drewN | apply below_drew1 | refine below_set ?_ (IsS35.ge HI0.out)) | exact HB.out)); rintro e w6 ⟨rfl, hi, hb, hk⟩; refine ⟨_, rfl, ?_⟩; have n0_ := Aside0.mk (KeepBut.trans (by repeat (first | (with_reducible first | exact HK.out | apply KeepBut.set_ | apply keep_drewN | apply keep_drew | apply keep_alloc) | exact HK.out)) hk (.inl rfl)); have n1_ := Aside0.mk (hb); have n2_ := Aside0.mk (hi); clear HK; clear HB; clear HI0; have HK := n0_; have HB := n1_; have HI0 := n2_; clear n0_ n1_ n2_; (try clear hb); (try clear hb2); (try clear hk); (try clear hi)))
    go_ret
    exact ⟨by first | rfl | (simp [errW_none, errW_some] <;> rfl) | (simp [*, errW_none, errW_some] <;> rfl), by repeat (first | (with_reducible first | exact HI0.out | apply IsS35.alloc | apply IsS35.drewN | apply IsS35.drew | apply IsS35.set_1 | apply IsS35.set_2) | exact HI0.out), by repeat (first | (with_reducible first | exact HB.out | apply below_alloc | apply pw_below_drewN | apply below_drew1 | refine below_set ?_ (IsS35.ge HI0.out)) | exact HB.out), by repeat (first | (with_reducible first | exact HK.out | apply KeepBut.set_ | apply keep_drewN | apply keep_drew | apply keep_alloc) | exact HK.out)⟩
  · rw [if_neg c3] at H
    have c3b0 : decide (t379 < 2) = false := decide_eq_false c3
    clear c3
    obtain ⟨y385, hy385⟩ : ∃ y_ : List ByteArray, y_ = (([(⟨#[97, 58, 32, 38, 97, 32, 91, 49, 44, 32, 123, 107, 58, 32, 38, 98, 32, 118, 44, 32, 108, 58, 32, 42, 98, 125, 93, 10, 98, 58, 32, 42, 97, 10, 99, 58, 10, 32, 32, 45, 32, 42, 97, 10, 32, 32, 45, 32, 38, 97, 32, 120, 10, 32, 32, 45, 32, 42, 97, 10]⟩ : ByteArray), (⟨#[45, 32, 38, 98, 32, 123, 112, 58, 32, 113, 125, 10, 45, 32, 38, 97, 32, 91, 42, 98, 44, 32, 42, 98, 93, 10, 45, 32, 91, 42, 97, 44, 32, 42, 97, 93, 10, 45, 32, 42, 97, 10]⟩ : ByteArray), (⟨#[38, 97, 32, 107, 101, 121, 58, 32, 38, 98, 10, 32, 32, 45, 32, 49, 10, 32, 32, 45, 32, 116, 119, 111, 10, 42, 97, 32, 58, 32, 42, 98, 10]⟩ : ByteArray), (⟨#[45, 45, 45, 32, 38, 97, 32, 49, 10, 45, 45, 45, 32, 91, 38, 97, 32, 91, 93, 44, 32, 42, 97, 44, 32, 91, 42, 97, 93, 93, 10, 46, 46, 46, 10]⟩ : ByteArray), (⟨#[38, 97, 32, 107, 58, 32, 118, 10, 120, 58, 32, 123, 97, 58, 32, 91, 98, 44, 32, 99, 44, 32, 123, 100, 58, 32, 42, 97, 125, 93, 125, 10]⟩ : ByteArray), (⟨#[45, 32, 97, 10, 45, 32, 98, 58, 32, 91, 99, 44, 32, 100, 10]⟩ : ByteArray), (⟨#[120, 58, 32, 38, 97, 10, 32, 32, 121, 58, 32, 38, 98, 32, 91, 49, 44, 32, 42, 113, 93, 10]⟩ : ByteArray), (⟨#[91, 38, 97, 32, 91, 91, 38, 98, 32, 91, 93, 93, 93, 44, 32, 42, 97, 44, 32, 42, 98, 44, 32, 123, 107, 58, 32, 42, 97, 125, 93]⟩ : ByteArray)] : List ByteArray)) := ⟨_, rfl⟩
    replace H : ((spec_l01Of.f s0_0 t380 t381 y385).bind fun bt388 => (if t379 = 2 then ((spec_l10Spoil.f k s0_0 bt388.2.1 bt388.2.2 bt388.1).bind fun bt391 => (some (bt391.1, bt391.2.1, bt391.2.2))) else (some (bt388.1, bt388.2.1, bt388.2.2)))) = some (r1, r2, r3) := by first | (rw [hy385]; with_reducible exact H) | (have H2_ := (Option.bind_some _ _).symm.trans H; rw [hy385]; with_reducible exact H2_) | (have H2_ := (Option.bind_some _ _).symm.trans H; with_reducible exact H2_) | with_reducible exact H | (rw [hy385]; exact H) | exact H
    have Ny385 := Aside0.mk hy385
    clear hy385
    replace H := Option.bind_eq_some_iff.mp H
    obtain ⟨⟨t388, t389, t390⟩, A70, H⟩ := H
    replace H : (if t379 = 2 then ((spec_l10Spoil.f k s0_0 t389 t390 t388).bind fun bt391 => (some (bt391.1, bt391.2.1, bt391.2.2))) else (some (t388, t389, t390))) = some (r1, r2, r3) := H
    have A7 := Aside0.mk A70
    clear A70
    by_cases c8 : t379 = 2
    · rw [if_pos c8] at H
      have c8b0 : (t379 == 2) = true := beq_iff_eq.mpr c8
      have c8b1 : (t379 != 2) = false := bne_eq_false_iff_eq.mpr c8
      clear c8
      replace H := Option.bind_eq_some_iff.mp H
      obtain ⟨⟨t391, t392, t393⟩, A90, H⟩ := H
      replace H : (some (t391, t392, t393)) = some (r1, r2, r3) := H
      have A9 := Aside0.mk A90
      clear A90
      simp only [Option.some.injEq, Prod.mk.injEq] at H
      obtain ⟨rfl, rfl, rfl⟩ := H
      go_enter Try.func17, Try.ntmps17
      go_wp2_with (first | ((with_reducible refine gate_callee (f := 16) rfl ?_); refine goesL_ (some 6) rfl rfl Try.func16 (by kernel_rfl) rfl #[.pointer (some ⟨g, 0, none⟩), .int .i64 6] rfl (by (try simp only [List.map_toArray, List.map_cons, List.map_nil]); first | done | rfl | (simp only [List.length_drop, List.length_take]; rfl)) ?_; (with_reducible refine (spec_l01Below.calls g s0_0 s0_1 s0_2 6 t379 t380 t381 w0 _ ?side1 ?side2 A2.out).mono ?_); (case side1 => repeat (first | (with_reducible first | exact HI0.out | apply IsS35.alloc | apply IsS35.drewN | apply IsS35.drew | apply IsS35.set_1 | apply IsS35.set_2) | exact HI0.out)); (case side2 => repeat (first | (with_reducible first | exact HB.out | apply below_alloc | apply pw_below_drewN | apply below_drew1 | refine below_set ?_ (IsS35.ge HI0.out)) | exact HB.out)); rintro e w10 ⟨rfl, hi, hb, hk⟩; refine ⟨_, rfl, ?_⟩; have n0_ := Aside0.mk (KeepBut.trans (by repeat (first | (with_reducible first | exact HK.out | apply KeepBut.set_ | apply keep_drewN | apply keep_drew | apply keep_alloc) | exact HK.out)) hk (.inl rfl)); have n1_ := Aside0.mk (hb); have n2_ := Aside0.mk (hi); clear HK; clear HB; clear HI0; have HK := n0_; have HB := n1_; have HI0 := n2_; clear n0_ n1_ n2_; (try clear hb); (try clear hb2); (try clear hk); (try clear hi)) | ((with_reducible refine gate_dst (N := 12) rfl ?_); refine Kd.R_lit Kd.string _ 9 ?hg (N := 12) ?hd (xs := ([(⟨#[97, 58, 32, 38, 97, 32, 91, 49, 44, 32, 123, 107, 58, 32, 38, 98, 32, 118, 44, 32, 108, 58, 32, 42, 98, 125, 93, 10, 98, 58, 32, 42, 97, 10, 99, 58, 10, 32, 32, 45, 32, 42, 97, 10, 32, 32, 45, 32, 38, 97, 32, 120, 10, 32, 32, 45, 32, 42, 97, 10]⟩ : ByteArray), (⟨#[45, 32, 38, 98, 32, 123, 112, 58, 32, 113, 125, 10, 45, 32, 38, 97, 32, 91, 42, 98, 44, 32, 42, 98, 93, 10, 45, 32, 91, 42, 97, 44, 32, 42, 97, 93, 10, 45, 32, 42, 97, 10]⟩ : ByteArray), (⟨#[38, 97, 32, 107, 101, 121, 58, 32, 38, 98, 10, 32, 32, 45, 32, 49, 10, 32, 32, 45, 32, 116, 119, 111, 10, 42, 97, 32, 58, 32, 42, 98, 10]⟩ : ByteArray), (⟨#[45, 45, 45, 32, 38, 97, 32, 49, 10, 45, 45, 45, 32, 91, 38, 97, 32, 91, 93, 44, 32, 42, 97, 44, 32, 91, 42, 97, 93, 93, 10, 46, 46, 46, 10]⟩ : ByteArray), (⟨#[38, 97, 32, 107, 58, 32, 118, 10, 120, 58, 32, 123, 97, 58, 32, 91, 98, 44, 32, 99, 44, 32, 123, 100, 58, 32, 42, 97, 125, 93, 125, 10]⟩ : ByteArray), (⟨#[45, 32, 97, 10, 45, 32, 98, 58, 32, 91, 99, 44, 32, 100, 10]⟩ : ByteArray), (⟨#[120, 58, 32, 38, 97, 10, 32, 32, 121, 58, 32, 38, 98, 32, 91, 49, 44, 32, 42, 113, 93, 10]⟩ : ByteArray), (⟨#[91, 38, 97, 32, 91, 91, 38, 98, 32, 91, 93, 93, 93, 44, 32, 42, 97, 44, 32, 42, 98, 44, 32, 123, 107, 58, 32, 42, 97, 125, 93]⟩ : ByteArray)] : List ByteArray)) (inner := [.string (⟨#[97, 58, 32, 38, 97, 32, 91, 49, 44, 32, 123, 107, 58, 32, 38, 98, 32, 118, 44, 32, 108, 58, 32, 42, 98, 125, 93, 10, 98, 58, 32, 42, 97, 10, 99, 58, 10, 32, 32, 45, 32, 42, 97, 10, 32, 32, 45, 32, 38, 97, 32, 120, 10, 32, 32, 45, 32, 42, 97, 10]⟩ : ByteArray), .string (⟨#[45, 32, 38, 98, 32, 123, 112, 58, 32, 113, 125, 10, 45, 32, 38, 97, 32, 91, 42, 98, 44, 32, 42, 98, 93, 10, 45, 32, 91, 42, 97, 44, 32, 42, 97, 93, 10, 45, 32, 42, 97, 10]⟩ : ByteArray), .string (⟨#[38, 97, 32, 107, 101, 121, 58, 32, 38, 98, 10, 32, 32, 45, 32, 49, 10, 32, 32, 45, 32, 116, 119, 111, 10, 42, 97, 32, 58, 32, 42, 98, 10]⟩ : ByteArray), .string (⟨#[45, 45, 45, 32, 38, 97, 32, 49, 10, 45, 45, 45, 32, 91, 38, 97, 32, 91, 93, 44, 32, 42, 97, 44, 32, 91, 42, 97, 93, 93, 10, 46, 46, 46, 10]⟩ : ByteArray), .string (⟨#[38, 97, 32, 107, 58, 32, 118, 10, 120, 58, 32, 123, 97, 58, 32, 91, 98, 44, 32, 99, 44, 32, 123, 100, 58, 32, 42, 97, 125, 93, 125, 10]⟩ : ByteArray), .string (⟨#[45, 32, 97, 10, 45, 32, 98, 58, 32, 91, 99, 44, 32, 100, 10]⟩ : ByteArray), .string (⟨#[120, 58, 32, 38, 97, 10, 32, 32, 121, 58, 32, 38, 98, 32, 91, 49, 44, 32, 42, 113, 93, 10]⟩ : ByteArray), .string (⟨#[91, 38, 97, 32, 91, 91, 38, 98, 32, 91, 93, 93, 93, 44, 32, 42, 97, 44, 32, 42, 98, 44, 32, 123, 107, 58, 32, 42, 97, 125, 93]⟩ : ByteArray)]) (ok := fun _ => True) (okp := fun _ => True) ?hr ?hp (fun _ hk => hk) trivial (Below.refl _ _) (Nat.le_refl _) (by simp) ?_; (case hd => rfl); (case hg => rfl); (case hr => first | (go_simp; done) | (go_simp; rfl)); (case hp => exact (Reps.one (show Kd.M Kd.string _ _ _ (⟨#[97, 58, 32, 38, 97, 32, 91, 49, 44, 32, 123, 107, 58, 32, 38, 98, 32, 118, 44, 32, 108, 58, 32, 42, 98, 125, 93, 10, 98, 58, 32, 42, 97, 10, 99, 58, 10, 32, 32, 45, 32, 42, 97, 10, 32, 32, 45, 32, 38, 97, 32, 120, 10, 32, 32, 45, 32, 42, 97, 10]⟩ : ByteArray) [.string (⟨#[97, 58, 32, 38, 97, 32, 91, 49, 44, 32, 123, 107, 58, 32, 38, 98, 32, 118, 44, 32, 108, 58, 32, 42, 98, 125, 93, 10, 98, 58, 32, 42, 97, 10, 99, 58, 10, 32, 32, 45, 32, 42, 97, 10, 32, 32, 45, 32, 38, 97, 32, 120, 10, 32, 32, 45, 32, 42, 97, 10]⟩ : ByteArray)] from rfl) (Reps.one (show Kd.M Kd.string _ _ _ (⟨#[45, 32, 38, 98, 32, 123, 112, 58, 32, 113, 125, 10, 45, 32, 38, 97, 32, 91, 42, 98, 44, 32, 42, 98, 93, 10, 45, 32, 91, 42, 97, 44, 32, 42, 97, 93, 10, 45, 32, 42, 97, 10]⟩ : ByteArray) [.string (⟨#[45, 32, 38, 98, 32, 123, 112, 58, 32, 113, 125, 10, 45, 32, 38, 97, 32, 91, 42, 98, 44, 32, 42, 98, 93, 10, 45, 32, 91, 42, 97, 44, 32, 42, 97, 93, 10, 45, 32, 42, 97, 10]⟩ : ByteArray)] from rfl) (Reps.one (show Kd.M Kd.string _ _ _ (⟨#[38, 97, 32, 107, 101, 121, 58, 32, 38, 98, 10, 32, 32, 45, 32, 49, 10, 32, 32, 45, 32, 116, 119, 111, 10, 42, 97, 32, 58, 32, 42, 98, 10]⟩ : ByteArray) [.string (⟨#[38, 97, 32, 107, 101, 121, 58, 32, 38, 98, 10, 32, 32, 45, 32, 49, 10, 32, 32, 45, 32, 116, 119, 111, 10, 42, 97, 32, 58, 32, 42, 98, 10]⟩ : ByteArray)] from rfl) (Reps.one (show Kd.M Kd.string _ _ _ (⟨#[45, 45, 45, 32, 38, 97, 32, 49, 10, 45, 45, 45, 32, 91, 38, 97, 32, 91, 93, 44, 32, 42, 97, 44, 32, 91, 42, 97, 93, 93, 10, 46, 46, 46, 10]⟩ : ByteArray) [.string (⟨#[45, 45, 45, 32, 38, 97, 32, 49, 10, 45, 45, 45, 32, 91, 38, 97, 32, 91, 93, 44, 32, 42, 97, 44, 32, 91, 42, 97, 93, 93, 10, 46, 46, 46, 10]⟩ : ByteArray)] from rfl) (Reps.one (show Kd.M Kd.string _ _ _ (⟨#[38, 97, 32, 107, 58, 32, 118, 10, 120, 58, 32, 123, 97, 58, 32, 91, 98, 44, 32, 99, 44, 32, 123, 100, 58, 32, 42, 97, 125, 93, 125, 10]⟩ : ByteArray) [.string (⟨#[38, 97, 32, 107, 58, 32, 118, 10, 120, 58, 32, 123, 97, 58, 32, 91, 98, 44, 32, 99, 44, 32, 123, 100, 58, 32, 42, 97, 125, 93, 125, 10]⟩ : ByteArray)] from rfl) (Reps.one (show Kd.M Kd.string _ _ _ (⟨#[45, 32, 97, 10, 45, 32, 98, 58, 32, 91, 99, 44, 32, 100, 10]⟩ : ByteArray) [.string (⟨#[45, 32, 97, 10, 45, 32, 98, 58, 32, 91, 99, 44, 32, 100, 10]⟩ : ByteArray)] from rfl) (Reps.one (show Kd.M Kd.string _ _ _ (⟨#[120, 58, 32, 38, 97, 10, 32, 32, 121, 58, 32, 38, 98, 32, 91, 49, 44, 32, 42, 113, 93, 10]⟩ : ByteArray) [.string (⟨#[120, 58, 32, 38, 97, 10, 32, 32, 121, 58, 32, 38, 98, 32, 91, 49, 44, 32, 42, 113, 93, 10]⟩ : ByteArray)] from rfl) (Reps.one (show Kd.M Kd.string _ _ _ (⟨#[91, 38, 97, 32, 91, 91, 38, 98, 32, 91, 93, 93, 93, 44, 32, 42, 97, 44, 32, 42, 98, 44, 32, 123, 107, 58, 32, 42, 97, 125, 93]⟩ : ByteArray) [.string (⟨#[91, 38, 97, 32, 91, 91, 38, 98, 32, 91, 93, 93, 93, 44, 32, 42, 97, 44, 32, 42, 98, 44, 32, 123, 107, 58, 32, 42, 97, 125, 93]⟩ : ByteArray)] from rfl) (Reps.none _ _)))))))))); intro v386 w11 ho12 hb hg_ hnew_; clear hg_ hnew_; (first | rw [← Ny385.out] at ho12 | (simp only [Int.reduceToNat] at ho12; rw [← Ny385.out] at ho12)); have n0_ := Aside0.mk (Kd.R_lower ho12 (keep_size (w := w) (g := g) (row := none) (by repeat (first | (with_reducible first | exact HK.out | apply KeepBut.set_ | apply keep_drewN | apply keep_drew | apply keep_alloc) | exact HK.out)))); have n1_ := Aside0.mk (IsS35.below (by repeat (first | (with_reducible first | exact HI0.out | apply IsS35.alloc | apply IsS35.drewN | apply IsS35.drew | apply IsS35.set_1 | apply IsS35.set_2) | exact HI0.out)) hb); have n2_ := Aside0.mk (KeepBut.trans (by repeat (first | (with_reducible first | exact HK.out | apply KeepBut.set_ | apply keep_drewN | apply keep_drew | apply keep_alloc) | exact HK.out)) (KeepBut.of_below hb g none) (.inl rfl)); have n3_ := Aside0.mk (below_step (by repeat (first | (with_reducible first | exact HB.out | apply below_alloc | apply pw_below_drewN | apply below_drew1 | refine below_set ?_ (IsS35.ge HI0.out)) | exact HB.out)) hb); clear HI0; clear HK; clear HB; have HO387 := n0_; have HI0 := n1_; have HK := n2_; have HB := n3_; clear n0_ n1_ n2_ n3_; clear hb ho12; obtain ⟨Ao13, co13, eo13⟩ := Kd.R_slice HO387.out; subst eo13) | ((with_reducible refine gate_callee (f := 28) rfl ?_); refine goesL_ (some 13) rfl rfl Try.func28 (by kernel_rfl) rfl #[.pointer (some ⟨g, 0, none⟩), .slice Ao13 y385.length co13] rfl (by (try simp only [List.map_toArray, List.map_cons, List.map_nil]); first | done | rfl | (simp only [List.length_drop, List.length_take]; rfl)) ?_; (with_reducible refine (spec_l01Of.calls g s0_0 t380 t381 _ _ y385 t388 t389 t390 w0 _ ?side1 ?side2 ?side3 ?side4 ?side5 A7.out).mono ?_); (case side1 => repeat (first | (with_reducible first | exact HI0.out | apply IsS35.alloc | apply IsS35.drewN | apply IsS35.drew | apply IsS35.set_1 | apply IsS35.set_2) | exact HI0.out)); (case side2 => repeat (first | (with_reducible first | exact HB.out | apply below_alloc | apply pw_below_drewN | apply below_drew1 | refine below_set ?_ (IsS35.ge HI0.out)) | exact HB.out)); (case side3 => repeat (first | exact (Kd.R_reads' HO387.out).2.2 | (with_reducible refine Kd.C_alloc ?_ _) | (with_reducible refine Kd.C_drewN ?_ _) | (with_reducible refine Kd.C_drew ?_))); (case side4 => exact (Kd.R_reads' HO387.out).2.1); (case side5 => exact far_slice (IsS35.own_ne HI0.out HO387.out (by decide))); rintro e w14 ⟨rfl, hi, hb, hk⟩; refine ⟨_, rfl, ?_⟩; have n0_ := Aside0.mk (Kd.R_mono (Kd.R_keep (IsS35.apart (show IsS35 w0 _ g s0_0 t380 t381 from by repeat (first | (with_reducible first | exact HI0.out | apply IsS35.alloc | apply IsS35.drewN | apply IsS35.drew | apply IsS35.set_1 | apply IsS35.set_2) | exact HI0.out)) (by (with_reducible repeat (first | apply Kd.R_alloc | apply Kd.R_drewN | apply Kd.R_drew)); exact HO387.out) (by decide)) hk (fun _ h => h.2)) (fun _ h => h.1)); have n1_ := Aside0.mk (KeepBut.trans (by repeat (first | (with_reducible first | exact HK.out | apply KeepBut.set_ | apply keep_drewN | apply keep_drew | apply keep_alloc) | exact HK.out)) hk (.inl rfl)); have n2_ := Aside0.mk (hb); have n3_ := Aside0.mk (hi); clear HO387; clear HK; clear HB; clear HI0; have HO387 := n0_; have HK := n1_; have HB := n2_; have HI0 := n3_; clear n0_ n1_ n2_ n3_; (try clear hb); (try clear hb2); (try clear hk); (try clear hi)) | ((with_reducible refine gate_callee (f := 25) rfl ?_); refine goesL_ (some 18) rfl rfl Try.func25 (by kernel_rfl) rfl #[.pointer (some ⟨g, 0, none⟩), .string t388] rfl (by (try simp only [List.map_toArray, List.map_cons, List.map_nil]); first | done | rfl | (simp only [List.length_drop, List.length_take]; rfl)) ?_; (with_reducible refine (spec_l10Spoil.calls k g s0_0 t389 t390 t388 t391 t392 t393 w0 _ ?side1 ?side2 A9.out).mono ?_); (case side1 => repeat (first | (with_reducible first | exact HI0.out | apply IsS35.alloc | apply IsS35.drewN | apply IsS35.drew | apply IsS35.set_1 | apply IsS35.set_2) | exact HI0.out)); (case side2 => repeat (first | (with_reducible first | exact HB.out | apply below_alloc | apply pw_below_drewN | apply below_drew1 | refine below_set ?_ (IsS35.ge HI0.out)) | exact HB.out)); rintro e w15 ⟨rfl, hi, hb, hk⟩; refine ⟨_, rfl, ?_⟩; have n0_ := Aside0.mk (Kd.R_mono (Kd.R_keep (IsS35.apart (show IsS35 w0 _ g s0_0 t389 t390 from by repeat (first | (with_reducible first | exact HI0.out | apply IsS35.alloc | apply IsS35.drewN | apply IsS35.drew | apply IsS35.set_1 | apply IsS35.set_2) | exact HI0.out)) (by (with_reducible repeat (first | apply Kd.R_alloc | apply Kd.R_drewN | apply Kd.R_drew)); exact HO387.out) (by decide)) hk (fun _ h => h.2)) (fun _ h => h.1)); have n1_ := Aside0.mk (KeepBut.trans (by repeat (first | (with_reducible first | exact HK.out | apply KeepBut.set_ | apply keep_drewN | apply keep_drew | apply keep_alloc) | exact HK.out)) hk (.inl rfl)); have n2_ := Aside0.mk (hb); have n3_ := Aside0.mk (hi); clear HO387; clear HK; clear HB; clear HI0; have HO387 := n0_; have HK := n1_; have HB := n2_; have HI0 := n3_; clear n0_ n1_ n2_ n3_; (try clear hb); (try clear hb2); (try clear hk); (try clear hi)))
      go_ret
      exact ⟨by first | rfl | (simp [errW_none, errW_some] <;> rfl) | (simp [*, errW_none, errW_some] <;> rfl), by repeat (first | (with_reducible first | exact HI0.out | apply IsS35.alloc | apply IsS35.drewN | apply IsS35.drew | apply IsS35.set_1 | apply IsS35.set_2) | exact HI0.out), by repeat (first | (with_reducible first | exact HB.out | apply below_alloc | apply pw_below_drewN | apply below_drew1 | refine below_set ?_ (IsS35.ge HI0.out)) | exact HB.out), by repeat (first | (with_reducible first | exact HK.out | apply KeepBut.set_ | apply keep_drewN | apply keep_drew | apply keep_alloc) | exact HK.out)⟩
    · rw [if_neg c8] at H
      have c8b0 : (t379 == 2) = false := beq_eq_false_iff_ne.mpr c8
      have c8b1 : (t379 != 2) = true := bne_iff_ne.mpr c8
      simp only [Option.some.injEq, Prod.mk.injEq] at H
      obtain ⟨rfl, rfl, rfl⟩ := H
      go_enter Try.func17, Try.ntmps17
      go_wp2_with (first | ((with_reducible refine gate_callee (f := 16) rfl ?_); refine goesL_ (some 6) rfl rfl Try.func16 (by kernel_rfl) rfl #[.pointer (some ⟨g, 0, none⟩), .int .i64 6] rfl (by (try simp only [List.map_toArray, List.map_cons, List.map_nil]); first | done | rfl | (simp only [List.length_drop, List.length_take]; rfl)) ?_; (with_reducible refine (spec_l01Below.calls g s0_0 s0_1 s0_2 6 t379 t380 t381 w0 _ ?side1 ?side2 A2.out).mono ?_); (case side1 => repeat (first | (with_reducible first | exact HI0.out | apply IsS35.alloc | apply IsS35.drewN | apply IsS35.drew | apply IsS35.set_1 | apply IsS35.set_2) | exact HI0.out)); (case side2 => repeat (first | (with_reducible first | exact HB.out | apply below_alloc | apply pw_below_drewN | apply below_drew1 | refine below_set ?_ (IsS35.ge HI0.out)) | exact HB.out)); rintro e w16 ⟨rfl, hi, hb, hk⟩; refine ⟨_, rfl, ?_⟩; have n0_ := Aside0.mk (KeepBut.trans (by repeat (first | (with_reducible first | exact HK.out | apply KeepBut.set_ | apply keep_drewN | apply keep_drew | apply keep_alloc) | exact HK.out)) hk (.inl rfl)); have n1_ := Aside0.mk (hb); have n2_ := Aside0.mk (hi); clear HK; clear HB; clear HI0; have HK := n0_; have HB := n1_; have HI0 := n2_; clear n0_ n1_ n2_; (try clear hb); (try clear hb2); (try clear hk); (try clear hi)) | ((with_reducible refine gate_dst (N := 12) rfl ?_); refine Kd.R_lit Kd.string _ 9 ?hg (N := 12) ?hd (xs := ([(⟨#[97, 58, 32, 38, 97, 32, 91, 49, 44, 32, 123, 107, 58, 32, 38, 98, 32, 118, 44, 32, 108, 58, 32, 42, 98, 125, 93, 10, 98, 58, 32, 42, 97, 10, 99, 58, 10, 32, 32, 45, 32, 42, 97, 10, 32, 32, 45, 32, 38, 97, 32, 120, 10, 32, 32, 45, 32, 42, 97, 10]⟩ : ByteArray), (⟨#[45, 32, 38, 98, 32, 123, 112, 58, 32, 113, 125, 10, 45, 32, 38, 97, 32, 91, 42, 98, 44, 32, 42, 98, 93, 10, 45, 32, 91, 42, 97, 44, 32, 42, 97, 93, 10, 45, 32, 42, 97, 10]⟩ : ByteArray), (⟨#[38, 97, 32, 107, 101, 121, 58, 32, 38, 98, 10, 32, 32, 45, 32, 49, 10, 32, 32, 45, 32, 116, 119, 111, 10, 42, 97, 32, 58, 32, 42, 98, 10]⟩ : ByteArray), (⟨#[45, 45, 45, 32, 38, 97, 32, 49, 10, 45, 45, 45, 32, 91, 38, 97, 32, 91, 93, 44, 32, 42, 97, 44, 32, 91, 42, 97, 93, 93, 10, 46, 46, 46, 10]⟩ : ByteArray), (⟨#[38, 97, 32, 107, 58, 32, 118, 10, 120, 58, 32, 123, 97, 58, 32, 91, 98, 44, 32, 99, 44, 32, 123, 100, 58, 32, 42, 97, 125, 93, 125, 10]⟩ : ByteArray), (⟨#[45, 32, 97, 10, 45, 32, 98, 58, 32, 91, 99, 44, 32, 100, 10]⟩ : ByteArray), (⟨#[120, 58, 32, 38, 97, 10, 32, 32, 121, 58, 32, 38, 98, 32, 91, 49, 44, 32, 42, 113, 93, 10]⟩ : ByteArray), (⟨#[91, 38, 97, 32, 91, 91, 38, 98, 32, 91, 93, 93, 93, 44, 32, 42, 97, 44, 32, 42, 98, 44, 32, 123, 107, 58, 32, 42, 97, 125, 93]⟩ : ByteArray)] : List ByteArray)) (inner := [.string (⟨#[97, 58, 32, 38, 97, 32, 91, 49, 44, 32, 123, 107, 58, 32, 38, 98, 32, 118, 44, 32, 108, 58, 32, 42, 98, 125, 93, 10, 98, 58, 32, 42, 97, 10, 99, 58, 10, 32, 32, 45, 32, 42, 97, 10, 32, 32, 45, 32, 38, 97, 32, 120, 10, 32, 32, 45, 32, 42, 97, 10]⟩ : ByteArray), .string (⟨#[45, 32, 38, 98, 32, 123, 112, 58, 32, 113, 125, 10, 45, 32, 38, 97, 32, 91, 42, 98, 44, 32, 42, 98, 93, 10, 45, 32, 91, 42, 97, 44, 32, 42, 97, 93, 10, 45, 32, 42, 97, 10]⟩ : ByteArray), .string (⟨#[38, 97, 32, 107, 101, 121, 58, 32, 38, 98, 10, 32, 32, 45, 32, 49, 10, 32, 32, 45, 32, 116, 119, 111, 10, 42, 97, 32, 58, 32, 42, 98, 10]⟩ : ByteArray), .string (⟨#[45, 45, 45, 32, 38, 97, 32, 49, 10, 45, 45, 45, 32, 91, 38, 97, 32, 91, 93, 44, 32, 42, 97, 44, 32, 91, 42, 97, 93, 93, 10, 46, 46, 46, 10]⟩ : ByteArray), .string (⟨#[38, 97, 32, 107, 58, 32, 118, 10, 120, 58, 32, 123, 97, 58, 32, 91, 98, 44, 32, 99, 44, 32, 123, 100, 58, 32, 42, 97, 125, 93, 125, 10]⟩ : ByteArray), .string (⟨#[45, 32, 97, 10, 45, 32, 98, 58, 32, 91, 99, 44, 32, 100, 10]⟩ : ByteArray), .string (⟨#[120, 58, 32, 38, 97, 10, 32, 32, 121, 58, 32, 38, 98, 32, 91, 49, 44, 32, 42, 113, 93, 10]⟩ : ByteArray), .string (⟨#[91, 38, 97, 32, 91, 91, 38, 98, 32, 91, 93, 93, 93, 44, 32, 42, 97, 44, 32, 42, 98, 44, 32, 123, 107, 58, 32, 42, 97, 125, 93]⟩ : ByteArray)]) (ok := fun _ => True) (okp := fun _ => True) ?hr ?hp (fun _ hk => hk) trivial (Below.refl _ _) (Nat.le_refl _) (by simp) ?_; (case hd => rfl); (case hg => rfl); (case hr => first | (go_simp; done) | (go_simp; rfl)); (case hp => exact (Reps.one (show Kd.M Kd.string _ _ _ (⟨#[97, 58, 32, 38, 97, 32, 91, 49, 44, 32, 123, 107, 58, 32, 38, 98, 32, 118, 44, 32, 108, 58, 32, 42, 98, 125, 93, 10, 98, 58, 32, 42, 97, 10, 99, 58, 10, 32, 32, 45, 32, 42, 97, 10, 32, 32, 45, 32, 38, 97, 32, 120, 10, 32, 32, 45, 32, 42, 97, 10]⟩ : ByteArray) [.string (⟨#[97, 58, 32, 38, 97, 32, 91, 49, 44, 32, 123, 107, 58, 32, 38, 98, 32, 118, 44, 32, 108, 58, 32, 42, 98, 125, 93, 10, 98, 58, 32, 42, 97, 10, 99, 58, 10, 32, 32, 45, 32, 42, 97, 10, 32, 32, 45, 32, 38, 97, 32, 120, 10, 32, 32, 45, 32, 42, 97, 10]⟩ : ByteArray)] from rfl) (Reps.one (show Kd.M Kd.string _ _ _ (⟨#[45, 32, 38, 98, 32, 123, 112, 58, 32, 113, 125, 10, 45, 32, 38, 97, 32, 91, 42, 98, 44, 32, 42, 98, 93, 10, 45, 32, 91, 42, 97, 44, 32, 42, 97, 93, 10, 45, 32, 42, 97, 10]⟩ : ByteArray) [.string (⟨#[45, 32, 38, 98, 32, 123, 112, 58, 32, 113, 125, 10, 45, 32, 38, 97, 32, 91, 42, 98, 44, 32, 42, 98, 93, 10, 45, 32, 91, 42, 97, 44, 32, 42, 97, 93, 10, 45, 32, 42, 97, 10]⟩ : ByteArray)] from rfl) (Reps.one (show Kd.M Kd.string _ _ _ (⟨#[38, 97, 32, 107, 101, 121, 58, 32, 38, 98, 10, 32, 32, 45, 32, 49, 10, 32, 32, 45, 32, 116, 119, 111, 10, 42, 97, 32, 58, 32, 42, 98, 10]⟩ : ByteArray) [.string (⟨#[38, 97, 32, 107, 101, 121, 58, 32, 38, 98, 10, 32, 32, 45, 32, 49, 10, 32, 32, 45, 32, 116, 119, 111, 10, 42, 97, 32, 58, 32, 42, 98, 10]⟩ : ByteArray)] from rfl) (Reps.one (show Kd.M Kd.string _ _ _ (⟨#[45, 45, 45, 32, 38, 97, 32, 49, 10, 45, 45, 45, 32, 91, 38, 97, 32, 91, 93, 44, 32, 42, 97, 44, 32, 91, 42, 97, 93, 93, 10, 46, 46, 46, 10]⟩ : ByteArray) [.string (⟨#[45, 45, 45, 32, 38, 97, 32, 49, 10, 45, 45, 45, 32, 91, 38, 97, 32, 91, 93, 44, 32, 42, 97, 44, 32, 91, 42, 97, 93, 93, 10, 46, 46, 46, 10]⟩ : ByteArray)] from rfl) (Reps.one (show Kd.M Kd.string _ _ _ (⟨#[38, 97, 32, 107, 58, 32, 118, 10, 120, 58, 32, 123, 97, 58, 32, 91, 98, 44, 32, 99, 44, 32, 123, 100, 58, 32, 42, 97, 125, 93, 125, 10]⟩ : ByteArray) [.string (⟨#[38, 97, 32, 107, 58, 32, 118, 10, 120, 58, 32, 123, 97, 58, 32, 91, 98, 44, 32, 99, 44, 32, 123, 100, 58, 32, 42, 97, 125, 93, 125, 10]⟩ : ByteArray)] from rfl) (Reps.one (show Kd.M Kd.string _ _ _ (⟨#[45, 32, 97, 10, 45, 32, 98, 58, 32, 91, 99, 44, 32, 100, 10]⟩ : ByteArray) [.string (⟨#[45, 32, 97, 10, 45, 32, 98, 58, 32, 91, 99, 44, 32, 100, 10]⟩ : ByteArray)] from rfl) (Reps.one (show Kd.M Kd.string _ _ _ (⟨#[120, 58, 32, 38, 97, 10, 32, 32, 121, 58, 32, 38, 98, 32, 91, 49, 44, 32, 42, 113, 93, 10]⟩ : ByteArray) [.string (⟨#[120, 58, 32, 38, 97, 10, 32, 32, 121, 58, 32, 38, 98, 32, 91, 49, 44, 32, 42, 113, 93, 10]⟩ : ByteArray)] from rfl) (Reps.one (show Kd.M Kd.string _ _ _ (⟨#[91, 38, 97, 32, 91, 91, 38, 98, 32, 91, 93, 93, 93, 44, 32, 42, 97, 44, 32, 42, 98, 44, 32, 123, 107, 58, 32, 42, 97, 125, 93]⟩ : ByteArray) [.string (⟨#[91, 38, 97, 32, 91, 91, 38, 98, 32, 91, 93, 93, 93, 44, 32, 42, 97, 44, 32, 42, 98, 44, 32, 123, 107, 58, 32, 42, 97, 125, 93]⟩ : ByteArray)] from rfl) (Reps.none _ _)))))))))); intro v386 w17 ho18 hb hg_ hnew_; clear hg_ hnew_; (first | rw [← Ny385.out] at ho18 | (simp only [Int.reduceToNat] at ho18; rw [← Ny385.out] at ho18)); have n0_ := Aside0.mk (Kd.R_lower ho18 (keep_size (w := w) (g := g) (row := none) (by repeat (first | (with_reducible first | exact HK.out | apply KeepBut.set_ | apply keep_drewN | apply keep_drew | apply keep_alloc) | exact HK.out)))); have n1_ := Aside0.mk (IsS35.below (by repeat (first | (with_reducible first | exact HI0.out | apply IsS35.alloc | apply IsS35.drewN | apply IsS35.drew | apply IsS35.set_1 | apply IsS35.set_2) | exact HI0.out)) hb); have n2_ := Aside0.mk (KeepBut.trans (by repeat (first | (with_reducible first | exact HK.out | apply KeepBut.set_ | apply keep_drewN | apply keep_drew | apply keep_alloc) | exact HK.out)) (KeepBut.of_below hb g none) (.inl rfl)); have n3_ := Aside0.mk (below_step (by repeat (first | (with_reducible first | exact HB.out | apply below_alloc | apply pw_below_drewN | apply below_drew1 | refine below_set ?_ (IsS35.ge HI0.out)) | exact HB.out)) hb); clear HI0; clear HK; clear HB; have HO387 := n0_; have HI0 := n1_; have HK := n2_; have HB := n3_; clear n0_ n1_ n2_ n3_; clear hb ho18; obtain ⟨Ao19, co19, eo19⟩ := Kd.R_slice HO387.out; subst eo19) | ((with_reducible refine gate_callee (f := 28) rfl ?_); refine goesL_ (some 13) rfl rfl Try.func28 (by kernel_rfl) rfl #[.pointer (some ⟨g, 0, none⟩), .slice Ao19 y385.length co19] rfl (by (try simp only [List.map_toArray, List.map_cons, List.map_nil]); first | done | rfl | (simp only [List.length_drop, List.length_take]; rfl)) ?_; (with_reducible refine (spec_l01Of.calls g s0_0 t380 t381 _ _ y385 t388 t389 t390 w0 _ ?side1 ?side2 ?side3 ?side4 ?side5 A7.out).mono ?_); (case side1 => repeat (first | (with_reducible first | exact HI0.out | apply IsS35.alloc | apply IsS35.drewN | apply IsS35.drew | apply IsS35.set_1 | apply IsS35.set_2) | exact HI0.out)); (case side2 => repeat (first | (with_reducible first | exact HB.out | apply below_alloc | apply pw_below_drewN | apply below_drew1 | refine below_set ?_ (IsS35.ge HI0.out)) | exact HB.out)); (case side3 => repeat (first | exact (Kd.R_reads' HO387.out).2.2 | (with_reducible refine Kd.C_alloc ?_ _) | (with_reducible refine Kd.C_drewN ?_ _) | (with_reducible refine Kd.C_drew ?_))); (case side4 => exact (Kd.R_reads' HO387.out).2.1); (case side5 => exact far_slice (IsS35.own_ne HI0.out HO387.out (by decide))); rintro e w20 ⟨rfl, hi, hb, hk⟩; refine ⟨_, rfl, ?_⟩; have n0_ := Aside0.mk (Kd.R_mono (Kd.R_keep (IsS35.apart (show IsS35 w0 _ g s0_0 t380 t381 from by repeat (first | (with_reducible first | exact HI0.out | apply IsS35.alloc | apply IsS35.drewN | apply IsS35.drew | apply IsS35.set_1 | apply IsS35.set_2) | exact HI0.out)) (by (with_reducible repeat (first | apply Kd.R_alloc | apply Kd.R_drewN | apply Kd.R_drew)); exact HO387.out) (by decide)) hk (fun _ h => h.2)) (fun _ h => h.1)); have n1_ := Aside0.mk (KeepBut.trans (by repeat (first | (with_reducible first | exact HK.out | apply KeepBut.set_ | apply keep_drewN | apply keep_drew | apply keep_alloc) | exact HK.out)) hk (.inl rfl)); have n2_ := Aside0.mk (hb); have n3_ := Aside0.mk (hi); clear HO387; clear HK; clear HB; clear HI0; have HO387 := n0_; have HK := n1_; have HB := n2_; have HI0 := n3_; clear n0_ n1_ n2_ n3_; (try clear hb); (try clear hb2); (try clear hk); (try clear hi)))
      go_ret
      exact ⟨by first | rfl | (simp [errW_none, errW_some] <;> rfl) | (simp [*, errW_none, errW_some] <;> rfl), by repeat (first | (with_reducible first | exact HI0.out | apply IsS35.alloc | apply IsS35.drewN | apply IsS35.drew | apply IsS35.set_1 | apply IsS35.set_2) | exact HI0.out), by repeat (first | (with_reducible first | exact HB.out | apply below_alloc | apply pw_below_drewN | apply below_drew1 | refine below_set ?_ (IsS35.ge HI0.out)) | exact HB.out), by repeat (first | (with_reducible first | exact HK.out | apply KeepBut.set_ | apply keep_drewN | apply keep_drew | apply keep_alloc) | exact HK.out)⟩

/-! ### spec_MakeAnyText: function 4 -/
def spec_MakeAnyText.f (k : Nat) (l0 : List Int) : Option (ByteArray) := (spec_l01New.f k l0).bind fun bt394 => ((spec_l12Any.f k bt394.1 bt394.2.1 bt394.2.2).bind fun bt398 => ((spec_l01Below.f bt394.1 bt398.2.1 bt398.2.2 3).bind fun bt401 => (if bt401.1 = 0 then ((spec_l16Text.f k bt394.1 bt401.2.1 bt401.2.2).bind fun bt404 => (some bt404.1)) else (some bt398.1))))
theorem spec_MakeAnyText.mono : ∀ a0 k, LeO (spec_MakeAnyText.f k a0) (spec_MakeAnyText.f (k + 1) a0) := by
  intro a0 k
  unfold spec_MakeAnyText.f
  repeat' first
      | (with_reducible exact spec_l01New.mono _ _)
      | (with_reducible exact spec_l12Any.mono _ _ _ _)
      | (with_reducible exact spec_l16Text.mono _ _ _ _)
      | (with_reducible exact LeO.refl _)
      | (with_reducible exact LeO.none _)
      | (with_reducible refine LeO.ite ?_ ?_)
      | (with_reducible refine LeO.bind ?_ (fun _ => ?_))
      | exact spec_l01New.mono _ _
      | exact spec_l12Any.mono _ _ _ _
      | exact spec_l16Text.mono _ _ _ _
      | exact LeO.none _
      | refine LeO.ite ?_ ?_
      | refine LeO.bind ?_ (fun _ => ?_)
set_option maxHeartbeats 8000000 in
set_option maxRecDepth 100000 in
theorem spec_MakeAnyText.calls (k : Nat) (A0 : Option Addr) (c0 : Nat) (l0 : List Int) (r : ByteArray) (w : World) (hr0 : Kd.C (Kd.int .u8) w A0 l0.length l0) (hc0 : l0.length ≤ c0) (h : spec_MakeAnyText.f k l0 = some r) :
    Calls Try.prog 4 #[.slice A0 l0.length c0] w fun e w' => e = .returned (.string r) ∧ Below w.heap.size w w' := by
  have HR0 := Aside0.mk hr0
  have HC0 := Aside0.mk hc0
  clear hr0 hc0
  have HB := Aside0.mk (Below.refl w.heap.size w)
  have H : ((spec_l01New.f k l0).bind fun bt394 => ((spec_l12Any.f k bt394.1 bt394.2.1 bt394.2.2).bind fun bt398 => ((spec_l01Below.f bt394.1 bt398.2.1 bt398.2.2 3).bind fun bt401 => (if bt401.1 = 0 then ((spec_l16Text.f k bt394.1 bt401.2.1 bt401.2.2).bind fun bt404 => (some bt404.1)) else (some bt398.1))))) = some r := h
  clear h
  replace H := Option.bind_eq_some_iff.mp H
  obtain ⟨⟨t394, t395, t396⟩, A20, H⟩ := H
  replace H : ((spec_l12Any.f k t394 t395 t396).bind fun bt398 => ((spec_l01Below.f t394 bt398.2.1 bt398.2.2 3).bind fun bt401 => (if bt401.1 = 0 then ((spec_l16Text.f k t394 bt401.2.1 bt401.2.2).bind fun bt404 => (some bt404.1)) else (some bt398.1)))) = some r := H
  have A2 := Aside0.mk A20
  clear A20
  replace H := Option.bind_eq_some_iff.mp H
  obtain ⟨⟨t398, t399, t400⟩, A30, H⟩ := H
  replace H : ((spec_l01Below.f t394 t399 t400 3).bind fun bt401 => (if bt401.1 = 0 then ((spec_l16Text.f k t394 bt401.2.1 bt401.2.2).bind fun bt404 => (some bt404.1)) else (some t398))) = some r := H
  have A3 := Aside0.mk A30
  clear A30
  replace H := Option.bind_eq_some_iff.mp H
  obtain ⟨⟨t401, t402, t403⟩, A40, H⟩ := H
  replace H : (if t401 = 0 then ((spec_l16Text.f k t394 t402 t403).bind fun bt404 => (some bt404.1)) else (some t398)) = some r := H
  have A4 := Aside0.mk A40
  clear A40
  by_cases c5 : t401 = 0
  · rw [if_pos c5] at H
    have c5b0 : (t401 == 0) = true := beq_iff_eq.mpr c5
    have c5b1 : (t401 != 0) = false := bne_eq_false_iff_eq.mpr c5
    clear c5
    replace H := Option.bind_eq_some_iff.mp H
    obtain ⟨⟨t404, t405, t406⟩, A60, H⟩ := H
    replace H : (some t404) = some r := H
    have A6 := Aside0.mk A60
    clear A60
    obtain rfl := Option.some.inj H
    go_enter Try.func4, Try.ntmps4
    go_wp2_with (first | ((with_reducible refine gate_callee (f := 14) rfl ?_); refine goesL_ (some 6) rfl rfl Try.func14 (by kernel_rfl) rfl #[.slice A0 l0.length c0] rfl (by (try simp only [List.map_toArray, List.map_cons, List.map_nil]); first | done | rfl | (simp only [List.length_drop, List.length_take]; rfl)) ?_; (with_reducible refine (spec_l01New.calls k _ _ l0 t394 t395 t396 w _ ?side1 ?side2 ?side3 A2.out).mono ?_); (case side1 => repeat (first | (with_reducible first | exact HB.out | apply below_alloc | apply pw_below_drewN | apply below_drew1) | exact HB.out)); (case side2 => exact HR0.out); (case side3 => exact HC0.out); rintro e w7 ⟨g397, rfl, hi, hb, hb2⟩; refine ⟨_, rfl, ?_⟩; have n0_ := Aside0.mk (hb); have n1_ := Aside0.mk (hi); clear HB; have HB := n0_; have HI397 := n1_; clear n0_ n1_; (try clear hb); (try clear hb2); (try clear hk); (try clear hi)) | ((with_reducible refine gate_callee (f := 15) rfl ?_); refine goesL_ (some 8) rfl rfl Try.func15 (by kernel_rfl) rfl #[.pointer (some ⟨g397, 0, none⟩)] rfl (by (try simp only [List.map_toArray, List.map_cons, List.map_nil]); first | done | rfl | (simp only [List.length_drop, List.length_take]; rfl)) ?_; (with_reducible refine (spec_l12Any.calls k g397 t394 t395 t396 t398 t399 t400 w _ ?side1 ?side2 A3.out).mono ?_); (case side1 => repeat (first | (with_reducible first | exact HI397.out | apply IsS35.alloc | apply IsS35.drewN | apply IsS35.drew | apply IsS35.set_1 | apply IsS35.set_2) | exact HI397.out)); (case side2 => repeat (first | (with_reducible first | exact HB.out | apply below_alloc | apply pw_below_drewN | apply below_drew1 | refine below_set ?_ (IsS35.ge HI397.out)) | exact HB.out)); rintro e w8 ⟨rfl, hi, hb, hk⟩; refine ⟨_, rfl, ?_⟩; have n0_ := Aside0.mk (hb); have n1_ := Aside0.mk (hi); clear HB; clear HI397; have HB := n0_; have HI397 := n1_; clear n0_ n1_; (try clear hb); (try clear hb2); (try clear hk); (try clear hi)) | ((with_reducible refine gate_callee (f := 16) rfl ?_); refine goesL_ (some 10) rfl rfl Try.func16 (by kernel_rfl) rfl #[.pointer (some ⟨g397, 0, none⟩), .int .i64 3] rfl (by (try simp only [List.map_toArray, List.map_cons, List.map_nil]); first | done | rfl | (simp only [List.length_drop, List.length_take]; rfl)) ?_; (with_reducible refine (spec_l01Below.calls g397 t394 t399 t400 3 t401 t402 t403 w _ ?side1 ?side2 A4.out).mono ?_); (case side1 => repeat (first | (with_reducible first | exact HI397.out | apply IsS35.alloc | apply IsS35.drewN | apply IsS35.drew | apply IsS35.set_1 | apply IsS35.set_2) | exact HI397.out)); (case side2 => repeat (first | (with_reducible first | exact HB.out | apply below_alloc | apply pw_below_drewN | apply below_drew1 | refine below_set ?_ (IsS35.ge HI397.out)) | exact HB.out)); rintro e w9 ⟨rfl, hi, hb, hk⟩; refine ⟨_, rfl, ?_⟩; have n0_ := Aside0.mk (hb); have n1_ := Aside0.mk (hi); clear HB; clear HI397; have HB := n0_; have HI397 := n1_; clear n0_ n1_; (try clear hb); (try clear hb2); (try clear hk); (try clear hi)) | ((with_reducible refine gate_callee (f := 17) rfl ?_); refine goesL_ (some 13) rfl rfl Try.func17 (by kernel_rfl) rfl #[.pointer (some ⟨g397, 0, none⟩)] rfl (by (try simp only [List.map_toArray, List.map_cons, List.map_nil]); first | done | rfl | (simp only [List.length_drop, List.length_take]; rfl)) ?_; (with_reducible refine (spec_l16Text.calls k g397 t394 t402 t403 t404 t405 t406 w _ ?side1 ?side2 A6.out).mono ?_); (case side1 => repeat (first | (with_reducible first | exact HI397.out | apply IsS35.alloc | apply IsS35.drewN | apply IsS35.drew | apply IsS35.set_1 | apply IsS35.set_2) | exact HI397.out)); (case side2 => repeat (first | (with_reducible first | exact HB.out | apply below_alloc | apply pw_below_drewN | apply below_drew1 | refine below_set ?_ (IsS35.ge HI397.out)) | exact HB.out)); rintro e w10 ⟨rfl, hi, hb, hk⟩; refine ⟨_, rfl, ?_⟩; have n0_ := Aside0.mk (hb); have n1_ := Aside0.mk (hi); clear HB; clear HI397; have HB := n0_; have HI397 := n1_; clear n0_ n1_; (try clear hb); (try clear hb2); (try clear hk); (try clear hi)))
    go_ret
    exact ⟨by first | rfl | (simp [errW_none, errW_some] <;> rfl) | (simp [*, errW_none, errW_some] <;> rfl), by repeat (first | (with_reducible first | exact HB.out | apply below_alloc | apply pw_below_drewN | apply below_drew1 | refine below_set ?_ (IsS35.ge HI397.out)) | exact HB.out)⟩
  · rw [if_neg c5] at H
    have c5b0 : (t401 == 0) = false := beq_eq_false_iff_ne.mpr c5
    have c5b1 : (t401 != 0) = true := bne_iff_ne.mpr c5
    obtain rfl := Option.some.inj H
    go_enter Try.func4, Try.ntmps4
    go_wp2_with (first | ((with_reducible refine gate_callee (f := 14) rfl ?_); refine goesL_ (some 6) rfl rfl Try.func14 (by kernel_rfl) rfl #[.slice A0 l0.length c0] rfl (by (try simp only [List.map_toArray, List.map_cons, List.map_nil]); first | done | rfl | (simp only [List.length_drop, List.length_take]; rfl)) ?_; (with_reducible refine (spec_l01New.calls k _ _ l0 t394 t395 t396 w _ ?side1 ?side2 ?side3 A2.out).mono ?_); (case side1 => repeat (first | (with_reducible first | exact HB.out | apply below_alloc | apply pw_below_drewN | apply below_drew1) | exact HB.out)); (case side2 => exact HR0.out); (case side3 => exact HC0.out); rintro e w11 ⟨g397, rfl, hi, hb, hb2⟩; refine ⟨_, rfl, ?_⟩; have n0_ := Aside0.mk (hb); have n1_ := Aside0.mk (hi); clear HB; have HB := n0_; have HI397 := n1_; clear n0_ n1_; (try clear hb); (try clear hb2); (try clear hk); (try clear hi)) | ((with_reducible refine gate_callee (f := 15) rfl ?_); refine goesL_ (some 8) rfl rfl Try.func15 (by kernel_rfl) rfl #[.pointer (some ⟨g397, 0, none⟩)] rfl (by (try simp only [List.map_toArray, List.map_cons, List.map_nil]); first | done | rfl | (simp only [List.length_drop, List.length_take]; rfl)) ?_; (with_reducible refine (spec_l12Any.calls k g397 t394 t395 t396 t398 t399 t400 w _ ?side1 ?side2 A3.out).mono ?_); (case side1 => repeat (first | (with_reducible first | exact HI397.out | apply IsS35.alloc | apply IsS35.drewN | apply IsS35.drew | apply IsS35.set_1 | apply IsS35.set_2) | exact HI397.out)); (case side2 => repeat (first | (with_reducible first | exact HB.out | apply below_alloc | apply pw_below_drewN | apply below_drew1 | refine below_set ?_ (IsS35.ge HI397.out)) | exact HB.out)); rintro e w12 ⟨rfl, hi, hb, hk⟩; refine ⟨_, rfl, ?_⟩; have n0_ := Aside0.mk (hb); have n1_ := Aside0.mk (hi); clear HB; clear HI397; have HB := n0_; have HI397 := n1_; clear n0_ n1_; (try clear hb); (try clear hb2); (try clear hk); (try clear hi)) | ((with_reducible refine gate_callee (f := 16) rfl ?_); refine goesL_ (some 10) rfl rfl Try.func16 (by kernel_rfl) rfl #[.pointer (some ⟨g397, 0, none⟩), .int .i64 3] rfl (by (try simp only [List.map_toArray, List.map_cons, List.map_nil]); first | done | rfl | (simp only [List.length_drop, List.length_take]; rfl)) ?_; (with_reducible refine (spec_l01Below.calls g397 t394 t399 t400 3 t401 t402 t403 w _ ?side1 ?side2 A4.out).mono ?_); (case side1 => repeat (first | (with_reducible first | exact HI397.out | apply IsS35.alloc | apply IsS35.drewN | apply IsS35.drew | apply IsS35.set_1 | apply IsS35.set_2) | exact HI397.out)); (case side2 => repeat (first | (with_reducible first | exact HB.out | apply below_alloc | apply pw_below_drewN | apply below_drew1 | refine below_set ?_ (IsS35.ge HI397.out)) | exact HB.out)); rintro e w13 ⟨rfl, hi, hb, hk⟩; refine ⟨_, rfl, ?_⟩; have n0_ := Aside0.mk (hb); have n1_ := Aside0.mk (hi); clear HB; clear HI397; have HB := n0_; have HI397 := n1_; clear n0_ n1_; (try clear hb); (try clear hb2); (try clear hk); (try clear hi)))
    go_ret
    exact ⟨by first | rfl | (simp [errW_none, errW_some] <;> rfl) | (simp [*, errW_none, errW_some] <;> rfl), by repeat (first | (with_reducible first | exact HB.out | apply below_alloc | apply pw_below_drewN | apply below_drew1 | refine below_set ?_ (IsS35.ge HI397.out)) | exact HB.out)⟩

/-! ### spec_MakeNum: function 5 -/
def spec_MakeNum.f (k : Nat) (l0 : List Int) (a1 : Int) : Option (Int) := (spec_l01New.f k l0).bind fun bt407 => ((spec_l01Below.f bt407.1 bt407.2.1 (wrap64 (bt407.2.2 + 777)) a1).bind fun bt411 => (some bt411.1))
theorem spec_MakeNum.mono : ∀ a0 a1 k, LeO (spec_MakeNum.f k a0 a1) (spec_MakeNum.f (k + 1) a0 a1) := by
  intro a0 a1 k
  unfold spec_MakeNum.f
  repeat' first
      | (with_reducible exact spec_l01New.mono _ _)
      | (with_reducible exact LeO.refl _)
      | (with_reducible exact LeO.none _)
      | (with_reducible refine LeO.ite ?_ ?_)
      | (with_reducible refine LeO.bind ?_ (fun _ => ?_))
      | exact spec_l01New.mono _ _
      | exact LeO.none _
      | refine LeO.ite ?_ ?_
      | refine LeO.bind ?_ (fun _ => ?_)
set_option maxHeartbeats 8000000 in
set_option maxRecDepth 100000 in
theorem spec_MakeNum.calls (k : Nat) (A0 : Option Addr) (c0 : Nat) (l0 : List Int) (a1 : Int) (r : Int) (w : World) (hr0 : Kd.C (Kd.int .u8) w A0 l0.length l0) (hc0 : l0.length ≤ c0) (h : spec_MakeNum.f k l0 a1 = some r) :
    Calls Try.prog 5 #[.slice A0 l0.length c0, .int .i64 a1] w fun e w' => e = .returned (.int .i64 r) ∧ Below w.heap.size w w' := by
  have HR0 := Aside0.mk hr0
  have HC0 := Aside0.mk hc0
  clear hr0 hc0
  have HB := Aside0.mk (Below.refl w.heap.size w)
  have H : ((spec_l01New.f k l0).bind fun bt407 => ((spec_l01Below.f bt407.1 bt407.2.1 (wrap64 (bt407.2.2 + 777)) a1).bind fun bt411 => (some bt411.1))) = some r := h
  clear h
  replace H := Option.bind_eq_some_iff.mp H
  obtain ⟨⟨t407, t408, t409⟩, A30, H⟩ := H
  replace H : ((spec_l01Below.f t407 t408 (wrap64 (t409 + 777)) a1).bind fun bt411 => (some bt411.1)) = some r := H
  have A3 := Aside0.mk A30
  clear A30
  replace H := Option.bind_eq_some_iff.mp H
  obtain ⟨⟨t411, t412, t413⟩, A40, H⟩ := H
  replace H : (some t411) = some r := H
  have A4 := Aside0.mk A40
  clear A40
  obtain rfl := Option.some.inj H
  go_enter Try.func5, Try.ntmps5
  go_wp2_with (first | ((with_reducible refine gate_callee (f := 14) rfl ?_); refine goesL_ (some 7) rfl rfl Try.func14 (by kernel_rfl) rfl #[.slice A0 l0.length c0] rfl (by (try simp only [List.map_toArray, List.map_cons, List.map_nil]); first | done | rfl | (simp only [List.length_drop, List.length_take]; rfl)) ?_; (with_reducible refine (spec_l01New.calls k _ _ l0 t407 t408 t409 w _ ?side1 ?side2 ?side3 A3.out).mono ?_); (case side1 => repeat (first | (with_reducible first | exact HB.out | apply below_alloc | apply pw_below_drewN | apply below_drew1) | exact HB.out)); (case side2 => exact HR0.out); (case side3 => exact HC0.out); rintro e w5 ⟨g410, rfl, hi, hb, hb2⟩; refine ⟨_, rfl, ?_⟩; have n0_ := Aside0.mk (hb); have n1_ := Aside0.mk (hi); clear HB; have HB := n0_; have HI410 := n1_; clear n0_ n1_; (try clear hb); (try clear hb2); (try clear hk); (try clear hi); obtain ⟨ASz6_0, cSz6_0, HGz6, hgz6, HSz6_0⟩ := HI410.out; have hcz6_0 := cellS35_0 HGz6; have hcz6_1 := cellS35_1 HGz6; have hcz6_2 := cellS35_2 HGz6; have hfz6_1 := blk_frozen HGz6 1; have hfz6_2 := blk_frozen HGz6 2; clear HGz6 hgz6) | ((with_reducible refine gate_callee (f := 16) rfl ?_); refine goesL_ (some 18) rfl rfl Try.func16 (by kernel_rfl) rfl #[.pointer (some ⟨g410, 0, none⟩), .int .i64 a1] rfl (by (try simp only [List.map_toArray, List.map_cons, List.map_nil]); first | done | rfl | (simp only [List.length_drop, List.length_take]; rfl)) ?_; (with_reducible refine (spec_l01Below.calls g410 t407 t408 (wrap64 (t409 + 777)) a1 t411 t412 t413 w _ ?side1 ?side2 A4.out).mono ?_); (case side1 => repeat (first | (with_reducible first | exact HI410.out | apply IsS35.alloc | apply IsS35.drewN | apply IsS35.drew | apply IsS35.set_1 | apply IsS35.set_2) | exact HI410.out)); (case side2 => repeat (first | (with_reducible first | exact HB.out | apply below_alloc | apply pw_below_drewN | apply below_drew1 | refine below_set ?_ (IsS35.ge HI410.out)) | exact HB.out)); rintro e w7 ⟨rfl, hi, hb, hk⟩; refine ⟨_, rfl, ?_⟩; have n0_ := Aside0.mk (hb); have n1_ := Aside0.mk (hi); clear HB; clear HI410; have HB := n0_; have HI410 := n1_; clear n0_ n1_; (try clear hb); (try clear hb2); (try clear hk); (try clear hi)))
  go_ret
  exact ⟨by first | rfl | (simp [errW_none, errW_some] <;> rfl) | (simp [*, errW_none, errW_some] <;> rfl), by repeat (first | (with_reducible first | exact HB.out | apply below_alloc | apply pw_below_drewN | apply below_drew1 | refine below_set ?_ (IsS35.ge HI410.out)) | exact HB.out)⟩

/-! ### bytealg_LastIndexByteString: function 29 -/
def bytealg_LastIndexByteString.l0 : Nat → ByteArray → Int → Int → Option (Int)
  | 0, _, _, _ => none
  | k + 1, x0, x1, x5 => if x5 ≥ 0 then (if 0 ≤ x5 then (if x5 < (x0.size : Int) then (if (bt x0 x5) = x1 then (some x5) else (bytealg_LastIndexByteString.l0 k x0 x1 (wrap64 (x5 - 1)))) else (none)) else (none)) else (some (-1))
def bytealg_LastIndexByteString.f (k : Nat) (a0 : ByteArray) (a1 : Int) : Option (Int) := bytealg_LastIndexByteString.l0 k a0 a1 (wrap64 ((a0.size : Int) - 1))
theorem bytealg_LastIndexByteString.mono_l : ∀ k, (∀ y0 y1 y2, LeO (bytealg_LastIndexByteString.l0 k y0 y1 y2) (bytealg_LastIndexByteString.l0 (k + 1) y0 y1 y2))
  | 0 => fun _ _ _ r h => by simp [bytealg_LastIndexByteString.l0] at h
  | k + 1 => by
    have ih0 := bytealg_LastIndexByteString.mono_l k
    · intro y0 y1 y2
      unfold bytealg_LastIndexByteString.l0
      repeat' first
      | (with_reducible exact ih0 _ _ _)
      | (with_reducible exact LeO.refl _)
      | (with_reducible exact LeO.none _)
      | (with_reducible refine LeO.ite ?_ ?_)
      | (with_reducible refine LeO.bind ?_ (fun _ => ?_))
      | exact ih0 _ _ _
      | exact LeO.none _
      | refine LeO.ite ?_ ?_
      | refine LeO.bind ?_ (fun _ => ?_)
theorem bytealg_LastIndexByteString.mono : ∀ a0 a1 k, LeO (bytealg_LastIndexByteString.f k a0 a1) (bytealg_LastIndexByteString.f (k + 1) a0 a1) := by
  intro a0 a1 k
  have ih0 := bytealg_LastIndexByteString.mono_l k
  unfold bytealg_LastIndexByteString.f
  repeat' first
      | (with_reducible exact ih0 _ _ _)
      | (with_reducible exact LeO.refl _)
      | (with_reducible exact LeO.none _)
      | (with_reducible refine LeO.ite ?_ ?_)
      | (with_reducible refine LeO.bind ?_ (fun _ => ?_))
      | exact ih0 _ _ _
      | exact LeO.none _
      | refine LeO.ite ?_ ?_
      | refine LeO.bind ?_ (fun _ => ?_)
set_option maxHeartbeats 8000000 in
set_option maxRecDepth 100000 in
theorem bytealg_LastIndexByteString.calls (k : Nat) (a0 : ByteArray) (a1 : Int) (r : Int) (w : World) (h : bytealg_LastIndexByteString.f k a0 a1 = some r) :
    Calls Try.prog 29 #[.string a0, .int .u8 a1] w fun e w' => e = .returned (.int .i64 r) ∧ Drawn0 w w' := by
  have H : (bytealg_LastIndexByteString.l0 k a0 a1 (wrap64 ((a0.size : Int) - 1))) = some r := h
  clear h
  have H' := Aside0.mk H
  clear H
  go_enter Try.func29, Try.ntmps29
  go_wp2
  go_loopg [5] k (fun kq v5 w' => ∃ (x5_1 : Int), v5 = .int .i64 x5_1 ∧ Aside0 (bytealg_LastIndexByteString.l0 kq a0 a1 x5_1 = some r) ∧ Aside0 (kq ≤ k) ∧ Drawn0 w w')
  case atStart => exact ⟨(wrap64 ((a0.size : Int) - 1)), (by first | rfl | (simp; done) | (simp [*]; done)), H', ⟨Nat.le_refl _⟩, by repeat (first | exact Drawn0.refl _ | apply Drawn0.step)⟩
  case round =>
    clear H'
    try clear c2
    try clear p2
    obtain ⟨x5_1, rfl, HA, HK1, ⟨m1, rfl⟩⟩ := hrel
    cases gk with
    | zero => exact absurd HA.out (by simp [bytealg_LastIndexByteString.l0])
    | succ k1 =>
      have H := HA.out
      clear HA
      simp only [bytealg_LastIndexByteString.l0] at H
      by_cases c3 : x5_1 ≥ 0
      · rw [if_pos c3] at H
        have c3b0 : decide (0 ≤ x5_1) = true := decide_eq_true c3
        clear c3
        by_cases c4 : 0 ≤ x5_1
        · rw [if_pos c4] at H
          have c4b0 : decide (0 ≤ x5_1) = true := decide_eq_true c4
          clear c4
          by_cases c5 : x5_1 < (a0.size : Int)
          · rw [if_pos c5] at H
            have c5b0 : decide (x5_1 < (a0.size : Int)) = true := decide_eq_true c5
            clear c5
            by_cases c7 : (bt a0 x5_1) = a1
            · rw [if_pos c7] at H
              have c7b0 : ((bt a0 x5_1) == a1) = true := beq_iff_eq.mpr c7
              have c7b1 : ((bt a0 x5_1) != a1) = false := bne_eq_false_iff_eq.mpr c7
              clear c7
              obtain rfl := Option.some.inj H
              have p6 : 0 ≤ (x5_1 : Int) := of_decide_eq_true (by first | (with_reducible assumption) | assumption)
              have q6 : x5_1 < (a0.size : Int) := of_decide_eq_true (by first | (with_reducible assumption) | assumption)
              have hx6 := bt_at a0 x5_1
              replace p6 := eq_true p6
              replace q6 := eq_true q6
              go_wp2
              go_ret
              exact ⟨by first | rfl | (simp; done) | (simp [*]; done), by repeat (first | exact Drawn0.refl _ | apply Drawn0.step)⟩
            · rw [if_neg c7] at H
              have c7b0 : ((bt a0 x5_1) == a1) = false := beq_eq_false_iff_ne.mpr c7
              have c7b1 : ((bt a0 x5_1) != a1) = true := bne_iff_ne.mpr c7
              have H' := Aside0.mk H
              clear H
              have p6 : 0 ≤ (x5_1 : Int) := of_decide_eq_true (by first | (with_reducible assumption) | assumption)
              have q6 : x5_1 < (a0.size : Int) := of_decide_eq_true (by first | (with_reducible assumption) | assumption)
              have hx6 := bt_at a0 x5_1
              replace p6 := eq_true p6
              replace q6 := eq_true q6
              go_wp2
              go_roundg k1
              case measure => have := HK1.out; omega
              case rel => exact ⟨(wrap64 (x5_1 - 1)), (by first | rfl | (simp; done) | (simp [*]; done)), H', ⟨by have := HK1.out; omega⟩, by repeat (first | exact Drawn0.refl _ | apply Drawn0.step)⟩
          · rw [if_neg c5] at H
            exact absurd H (by simp)
        · rw [if_neg c4] at H
          exact absurd H (by simp)
      · rw [if_neg c3] at H
        have c3b0 : decide (0 ≤ x5_1) = false := decide_eq_false c3
        clear c3
        obtain rfl := Option.some.inj H
        go_wp2
        go_ret
        exact ⟨by first | rfl | (simp; done) | (simp [*]; done), by repeat (first | exact Drawn0.refl _ | apply Drawn0.step)⟩

/-! ### strings_LastIndexByte: function 18 -/
def strings_LastIndexByte.f (k : Nat) (a0 : ByteArray) (a1 : Int) : Option (Int) := (bytealg_LastIndexByteString.f k a0 a1).bind fun t414 => (some t414)
theorem strings_LastIndexByte.mono : ∀ a0 a1 k, LeO (strings_LastIndexByte.f k a0 a1) (strings_LastIndexByte.f (k + 1) a0 a1) := by
  intro a0 a1 k
  unfold strings_LastIndexByte.f
  repeat' first
      | (with_reducible exact bytealg_LastIndexByteString.mono _ _ _)
      | (with_reducible exact LeO.refl _)
      | (with_reducible exact LeO.none _)
      | (with_reducible refine LeO.ite ?_ ?_)
      | (with_reducible refine LeO.bind ?_ (fun _ => ?_))
      | exact bytealg_LastIndexByteString.mono _ _ _
      | exact LeO.none _
      | refine LeO.ite ?_ ?_
      | refine LeO.bind ?_ (fun _ => ?_)
set_option maxHeartbeats 8000000 in
set_option maxRecDepth 100000 in
theorem strings_LastIndexByte.calls (k : Nat) (a0 : ByteArray) (a1 : Int) (r : Int) (w : World) (h : strings_LastIndexByte.f k a0 a1 = some r) :
    Calls Try.prog 18 #[.string a0, .int .u8 a1] w fun e w' => e = .returned (.int .i64 r) ∧ Drawn0 w w' := by
  have H : ((bytealg_LastIndexByteString.f k a0 a1).bind fun t414 => (some t414)) = some r := h
  clear h
  replace H := Option.bind_eq_some_iff.mp H
  obtain ⟨t414, A30, H⟩ := H
  replace H : (some t414) = some r := H
  have A3 := Aside0.mk A30
  clear A30
  obtain rfl := Option.some.inj H
  go_enter Try.func18, Try.ntmps18
  go_wp2_with (first | ((with_reducible refine gate_callee (f := 29) rfl ?_); refine goesL_ (some 7) rfl rfl Try.func29 (by kernel_rfl) rfl #[.string a0, .int .u8 a1] rfl (by (try simp only [List.map_toArray, List.map_cons, List.map_nil]); first | done | rfl | (simp only [List.length_drop, List.length_take]; rfl)) ?_; (with_reducible refine (bytealg_LastIndexByteString.calls k a0 a1 t414 _ A3.out).mono ?_); rintro e w' ⟨rfl, ⟨nd, rfl⟩⟩; refine ⟨_, rfl, ?_⟩))
  go_ret
  exact ⟨by first | rfl | (simp; done) | (simp [*]; done), by repeat (first | exact Drawn0.refl _ | apply Drawn0.step)⟩

/-! ### impl_spot: function 19 -/
def impl_spot.f (a0 : ByteArray) (a1 : Int) : Option (Int) := some (mn (mx a1 0) (a0.size : Int))
set_option maxHeartbeats 8000000 in
set_option maxRecDepth 100000 in
theorem impl_spot.calls (a0 : ByteArray) (a1 : Int) (r : Int) (w : World) (h : impl_spot.f a0 a1 = some r) :
    Calls Try.prog 19 #[.string a0, .int .i64 a1] w fun e w' => e = .returned (.int .i64 r) ∧ Below w.heap.size w w' := by
  have HB := Aside0.mk (Below.refl w.heap.size w)
  have H : (some (mn (mx a1 0) (a0.size : Int))) = some r := h
  clear h
  obtain ⟨ji3, hji3⟩ : ∃ j_ : Int, (mx a1 0) = j_ := ⟨_, rfl⟩
  replace H : (some (mn (ji3) (a0.size : Int))) = some r := by first | (rw [hji3] at H; exact H) | (simp only [hji3] at H ⊢; exact H)
  (try (have hji3l : 0 ≤ ji3 := by (rw [← hji3]; unfold mx; (repeat' split) <;> omega)))
  (try (have hji3m : 0 ≤ ji3 := by omega))
  have hji3_ : (if a1 < 0 then 0 else a1) = ji3 := hji3
  obtain ⟨ji4, hji4⟩ : ∃ j_ : Int, (mn (ji3) (a0.size : Int)) = j_ := ⟨_, rfl⟩
  replace H : (some ji4) = some r := by first | (rw [hji4] at H; exact H) | (simp only [hji4] at H ⊢; exact H)
  have hji4_ : (if (a0.size : Int) < (ji3) then (a0.size : Int) else (ji3)) = ji4 := hji4
  obtain rfl := Option.some.inj H
  go_enter Try.func19, Try.ntmps19
  go_wp2
  go_ret
  exact ⟨by first | rfl | (simp [errW_none, errW_some] <;> rfl) | (simp only [← hji3, ← hji4]; first | rfl | (simp [errW_none, errW_some] <;> rfl)) | (simp [*, errW_none, errW_some] <;> rfl), by repeat (first | (with_reducible first | exact HB.out | apply below_alloc | apply pw_below_drewN | apply below_drew1) | exact HB.out)⟩

/-! ### impl_LineAt: function 6 -/
def impl_LineAt.f (k : Nat) (a0 : ByteArray) (a1 : Int) : Option (Int) := (impl_spot.f a0 a1).bind fun t415 => (if 0 ≤ t415 then (if t415 ≤ (a0.size : Int) then ((strings_LastIndexByte.f k (a0.extract 0 (t415 : Int).toNat) 10).bind fun t416 => (some (wrap64 (t416 + 1)))) else (none)) else (none))
theorem impl_LineAt.mono : ∀ a0 a1 k, LeO (impl_LineAt.f k a0 a1) (impl_LineAt.f (k + 1) a0 a1) := by
  intro a0 a1 k
  unfold impl_LineAt.f
  repeat' first
      | (with_reducible exact strings_LastIndexByte.mono _ _ _)
      | (with_reducible exact LeO.refl _)
      | (with_reducible exact LeO.none _)
      | (with_reducible refine LeO.ite ?_ ?_)
      | (with_reducible refine LeO.bind ?_ (fun _ => ?_))
      | exact strings_LastIndexByte.mono _ _ _
      | exact LeO.none _
      | refine LeO.ite ?_ ?_
      | refine LeO.bind ?_ (fun _ => ?_)
set_option maxHeartbeats 8000000 in
set_option maxRecDepth 100000 in
theorem impl_LineAt.calls (k : Nat) (a0 : ByteArray) (a1 : Int) (r : Int) (w : World) (h : impl_LineAt.f k a0 a1 = some r) :
    Calls Try.prog 6 #[.string a0, .int .i64 a1] w fun e w' => e = .returned (.int .i64 r) ∧ Below w.heap.size w w' := by
  have HB := Aside0.mk (Below.refl w.heap.size w)
  have H : ((impl_spot.f a0 a1).bind fun t415 => (if 0 ≤ t415 then (if t415 ≤ (a0.size : Int) then ((strings_LastIndexByte.f k (a0.extract 0 (t415 : Int).toNat) 10).bind fun t416 => (some (wrap64 (t416 + 1)))) else (none)) else (none))) = some r := h
  clear h
  replace H := Option.bind_eq_some_iff.mp H
  obtain ⟨t415, A30, H⟩ := H
  replace H : (if 0 ≤ t415 then (if t415 ≤ (a0.size : Int) then ((strings_LastIndexByte.f k (a0.extract 0 (t415 : Int).toNat) 10).bind fun t416 => (some (wrap64 (t416 + 1)))) else (none)) else (none)) = some r := H
  have A3 := Aside0.mk A30
  clear A30
  by_cases c4 : 0 ≤ t415
  · rw [if_pos c4] at H
    have c4b0 := eq_true c4
    have c4b1 : decide (0 ≤ t415) = true := decide_eq_true c4
    clear c4
    by_cases c5 : t415 ≤ (a0.size : Int)
    · rw [if_pos c5] at H
      have c5b0 := eq_true c5
      have c5b1 : decide (t415 ≤ (a0.size : Int)) = true := decide_eq_true c5
      clear c5
      replace H := Option.bind_eq_some_iff.mp H
      obtain ⟨t416, A60, H⟩ := H
      replace H : (some (wrap64 (t416 + 1))) = some r := H
      have A6 := Aside0.mk A60
      clear A60
      obtain rfl := Option.some.inj H
      go_enter Try.func6, Try.ntmps6
      go_wp2_with (first | ((with_reducible refine gate_callee (f := 19) rfl ?_); refine goesL_ (some 8) rfl rfl Try.func19 (by kernel_rfl) rfl #[.string a0, .int .i64 a1] rfl (by (try simp only [List.map_toArray, List.map_cons, List.map_nil]); first | done | rfl | (simp only [List.length_drop, List.length_take]; rfl)) ?_; (with_reducible refine (impl_spot.calls a0 a1 t415 _ A3.out).mono ?_); rintro e w7 ⟨rfl, hb⟩; refine ⟨_, rfl, ?_⟩; have n0_ := Aside0.mk (below_step (by repeat (first | (with_reducible first | exact HB.out | apply below_alloc | apply pw_below_drewN | apply below_drew1) | exact HB.out)) hb); clear HB; have HB := n0_; clear n0_; (try clear hb); (try clear hb2); (try clear hk); (try clear hi)) | ((with_reducible refine gate_callee (f := 18) rfl ?_); refine goesL_ (some 10) rfl rfl Try.func18 (by kernel_rfl) rfl #[.string (a0.extract 0 (t415 : Int).toNat), .int .u8 10] rfl (by (try simp only [List.map_toArray, List.map_cons, List.map_nil]); first | done | rfl | (simp only [List.length_drop, List.length_take]; rfl)) ?_; (with_reducible refine (strings_LastIndexByte.calls k (a0.extract 0 (t415 : Int).toNat) 10 t416 _ A6.out).mono ?_); rintro e w' ⟨rfl, ⟨nd, rfl⟩⟩; refine ⟨_, rfl, ?_⟩))
      go_ret
      exact ⟨by first | rfl | (simp [errW_none, errW_some] <;> rfl) | (simp [*, errW_none, errW_some] <;> rfl), by repeat (first | (with_reducible first | exact HB.out | apply below_alloc | apply pw_below_drewN | apply below_drew1) | exact HB.out)⟩
    · rw [if_neg c5] at H
      exact absurd H (by simp)
  · rw [if_neg c4] at H
    exact absurd H (by simp)

/-! ### strings_IndexByte: function 20 -/
def strings_IndexByte.f (a0 : ByteArray) (a1 : Int) : Option (Int) := some (Lib.indexByte a0.data.toList a1.toNat.toUInt8)
set_option maxHeartbeats 1000000 in
set_option maxRecDepth 100000 in
theorem strings_IndexByte.inner (s : ByteArray) (c : Int) (w : World) :
    Calls Try.prog 30 #[.string s, .int .u8 c] w fun e w' => e = .returned (.int .i64 (Lib.indexByte s.data.toList c.toNat.toUInt8)) ∧ w' = w := by
  go_enter Try.func30, Try.ntmps30
  go_wp2
  rw [run_callFunc_extern Try.func34 (by kernel_rfl) (by kernel_rfl) (by kernel_rfl) (e := Extern.BytealgIndexByte.indexByte) (by kernel_rfl), Lib.run_indexByteString]
  simp only [Result.andThen]
  rw [Oper.upon_value]
  go_wp2
  go_ret
  exact ⟨rfl, rfl⟩
set_option maxHeartbeats 1000000 in
theorem strings_IndexByte.calls (a0 : ByteArray) (a1 : Int) (r : Int) (w : World) (h : strings_IndexByte.f a0 a1 = some r) :
    Calls Try.prog 20 #[.string a0, .int .u8 a1] w fun e w' => e = .returned (.int .i64 r) ∧ Drawn0 w w' := by
  obtain rfl := Option.some.inj h
  go_enter Try.func20, Try.ntmps20
  go_wp2_with (go_at_call 30; refine (strings_IndexByte.inner _ _ _).mono ?_; rintro e w' ⟨rfl, rfl⟩)
  go_ret
  exact ⟨rfl, Drawn0.refl _⟩

/-! ### impl_EndAt: function 7 -/
def impl_EndAt.f (a0 : ByteArray) (a1 : Int) : Option (Int) := (impl_spot.f a0 a1).bind fun t417 => (if 0 ≤ t417 then (if t417 ≤ (a0.size : Int) then ((strings_IndexByte.f (a0.extract (t417 : Int).toNat a0.size) 10).bind fun t418 => (if t418 < 0 then (some (a0.size : Int)) else (some (wrap64 (t417 + t418))))) else (none)) else (none))
set_option maxHeartbeats 8000000 in
set_option maxRecDepth 100000 in
theorem impl_EndAt.calls (a0 : ByteArray) (a1 : Int) (r : Int) (w : World) (h : impl_EndAt.f a0 a1 = some r) :
    Calls Try.prog 7 #[.string a0, .int .i64 a1] w fun e w' => e = .returned (.int .i64 r) ∧ Below w.heap.size w w' := by
  have HB := Aside0.mk (Below.refl w.heap.size w)
  have H : ((impl_spot.f a0 a1).bind fun t417 => (if 0 ≤ t417 then (if t417 ≤ (a0.size : Int) then ((strings_IndexByte.f (a0.extract (t417 : Int).toNat a0.size) 10).bind fun t418 => (if t418 < 0 then (some (a0.size : Int)) else (some (wrap64 (t417 + t418))))) else (none)) else (none))) = some r := h
  clear h
  replace H := Option.bind_eq_some_iff.mp H
  obtain ⟨t417, A30, H⟩ := H
  replace H : (if 0 ≤ t417 then (if t417 ≤ (a0.size : Int) then ((strings_IndexByte.f (a0.extract (t417 : Int).toNat a0.size) 10).bind fun t418 => (if t418 < 0 then (some (a0.size : Int)) else (some (wrap64 (t417 + t418))))) else (none)) else (none)) = some r := H
  have A3 := Aside0.mk A30
  clear A30
  by_cases c4 : 0 ≤ t417
  · rw [if_pos c4] at H
    have c4b0 := eq_true c4
    have c4b1 : decide (0 ≤ t417) = true := decide_eq_true c4
    clear c4
    by_cases c5 : t417 ≤ (a0.size : Int)
    · rw [if_pos c5] at H
      have c5b0 := eq_true c5
      have c5b1 : decide (t417 ≤ (a0.size : Int)) = true := decide_eq_true c5
      clear c5
      replace H := Option.bind_eq_some_iff.mp H
      obtain ⟨t418, A60, H⟩ := H
      replace H : (if t418 < 0 then (some (a0.size : Int)) else (some (wrap64 (t417 + t418)))) = some r := H
      have A6 := Aside0.mk A60
      clear A60
      by_cases c7 : t418 < 0
      · rw [if_pos c7] at H
        have c7b0 : decide (t418 < 0) = true := decide_eq_true c7
        clear c7
        obtain rfl := Option.some.inj H
        go_enter Try.func7, Try.ntmps7
        go_wp2_with (first | ((with_reducible refine gate_callee (f := 19) rfl ?_); refine goesL_ (some 8) rfl rfl Try.func19 (by kernel_rfl) rfl #[.string a0, .int .i64 a1] rfl (by (try simp only [List.map_toArray, List.map_cons, List.map_nil]); first | done | rfl | (simp only [List.length_drop, List.length_take]; rfl)) ?_; (with_reducible refine (impl_spot.calls a0 a1 t417 _ A3.out).mono ?_); rintro e w8 ⟨rfl, hb⟩; refine ⟨_, rfl, ?_⟩; have n0_ := Aside0.mk (below_step (by repeat (first | (with_reducible first | exact HB.out | apply below_alloc | apply pw_below_drewN | apply below_drew1) | exact HB.out)) hb); clear HB; have HB := n0_; clear n0_; (try clear hb); (try clear hb2); (try clear hk); (try clear hi)) | ((with_reducible refine gate_callee (f := 20) rfl ?_); refine goesL_ (some 12) rfl rfl Try.func20 (by kernel_rfl) rfl #[.string (a0.extract (t417 : Int).toNat a0.size), .int .u8 10] rfl (by (try simp only [List.map_toArray, List.map_cons, List.map_nil]); first | done | rfl | (simp only [List.length_drop, List.length_take]; rfl)) ?_; (with_reducible refine (strings_IndexByte.calls (a0.extract (t417 : Int).toNat a0.size) 10 t418 _ A6.out).mono ?_); rintro e w' ⟨rfl, ⟨nd, rfl⟩⟩; refine ⟨_, rfl, ?_⟩))
        go_ret
        exact ⟨by first | rfl | (simp [errW_none, errW_some] <;> rfl) | (simp [*, errW_none, errW_some] <;> rfl), by repeat (first | (with_reducible first | exact HB.out | apply below_alloc | apply pw_below_drewN | apply below_drew1) | exact HB.out)⟩
      · rw [if_neg c7] at H
        have c7b0 : decide (t418 < 0) = false := decide_eq_false c7
        clear c7
        obtain rfl := Option.some.inj H
        go_enter Try.func7, Try.ntmps7
        go_wp2_with (first | ((with_reducible refine gate_callee (f := 19) rfl ?_); refine goesL_ (some 8) rfl rfl Try.func19 (by kernel_rfl) rfl #[.string a0, .int .i64 a1] rfl (by (try simp only [List.map_toArray, List.map_cons, List.map_nil]); first | done | rfl | (simp only [List.length_drop, List.length_take]; rfl)) ?_; (with_reducible refine (impl_spot.calls a0 a1 t417 _ A3.out).mono ?_); rintro e w9 ⟨rfl, hb⟩; refine ⟨_, rfl, ?_⟩; have n0_ := Aside0.mk (below_step (by repeat (first | (with_reducible first | exact HB.out | apply below_alloc | apply pw_below_drewN | apply below_drew1) | exact HB.out)) hb); clear HB; have HB := n0_; clear n0_; (try clear hb); (try clear hb2); (try clear hk); (try clear hi)) | ((with_reducible refine gate_callee (f := 20) rfl ?_); refine goesL_ (some 12) rfl rfl Try.func20 (by kernel_rfl) rfl #[.string (a0.extract (t417 : Int).toNat a0.size), .int .u8 10] rfl (by (try simp only [List.map_toArray, List.map_cons, List.map_nil]); first | done | rfl | (simp only [List.length_drop, List.length_take]; rfl)) ?_; (with_reducible refine (strings_IndexByte.calls (a0.extract (t417 : Int).toNat a0.size) 10 t418 _ A6.out).mono ?_); rintro e w' ⟨rfl, ⟨nd, rfl⟩⟩; refine ⟨_, rfl, ?_⟩))
        go_ret
        exact ⟨by first | rfl | (simp [errW_none, errW_some] <;> rfl) | (simp [*, errW_none, errW_some] <;> rfl), by repeat (first | (with_reducible first | exact HB.out | apply below_alloc | apply pw_below_drewN | apply below_drew1) | exact HB.out)⟩
    · rw [if_neg c5] at H
      exact absurd H (by simp)
  · rw [if_neg c4] at H
    exact absurd H (by simp)

/-! ### impl_byteAt: function 21 -/
def impl_byteAt.f (a0 : ByteArray) (a1 : Int) : Option (Int) := (impl_spot.f a0 a1).bind fun t419 => (if t419 = (a0.size : Int) then (some (-1)) else (if 0 ≤ t419 then (if t419 < (a0.size : Int) then (some (wrap64 (bt a0 t419))) else (none)) else (none)))
set_option maxHeartbeats 8000000 in
set_option maxRecDepth 100000 in
theorem impl_byteAt.calls (a0 : ByteArray) (a1 : Int) (r : Int) (w : World) (h : impl_byteAt.f a0 a1 = some r) :
    Calls Try.prog 21 #[.string a0, .int .i64 a1] w fun e w' => e = .returned (.int .i64 r) ∧ Below w.heap.size w w' := by
  have HB := Aside0.mk (Below.refl w.heap.size w)
  have H : ((impl_spot.f a0 a1).bind fun t419 => (if t419 = (a0.size : Int) then (some (-1)) else (if 0 ≤ t419 then (if t419 < (a0.size : Int) then (some (wrap64 (bt a0 t419))) else (none)) else (none)))) = some r := h
  clear h
  replace H := Option.bind_eq_some_iff.mp H
  obtain ⟨t419, A30, H⟩ := H
  replace H : (if t419 = (a0.size : Int) then (some (-1)) else (if 0 ≤ t419 then (if t419 < (a0.size : Int) then (some (wrap64 (bt a0 t419))) else (none)) else (none))) = some r := H
  have A3 := Aside0.mk A30
  clear A30
  by_cases c4 : t419 = (a0.size : Int)
  · rw [if_pos c4] at H
    have c4b0 : (t419 == (a0.size : Int)) = true := beq_iff_eq.mpr c4
    have c4b1 : (t419 != (a0.size : Int)) = false := bne_eq_false_iff_eq.mpr c4
    clear c4
    obtain rfl := Option.some.inj H
    go_enter Try.func21, Try.ntmps21
    go_wp2_with (first | ((with_reducible refine gate_callee (f := 19) rfl ?_); refine goesL_ (some 7) rfl rfl Try.func19 (by kernel_rfl) rfl #[.string a0, .int .i64 a1] rfl (by (try simp only [List.map_toArray, List.map_cons, List.map_nil]); first | done | rfl | (simp only [List.length_drop, List.length_take]; rfl)) ?_; (with_reducible refine (impl_spot.calls a0 a1 t419 _ A3.out).mono ?_); rintro e w5 ⟨rfl, hb⟩; refine ⟨_, rfl, ?_⟩; have n0_ := Aside0.mk (below_step (by repeat (first | (with_reducible first | exact HB.out | apply below_alloc | apply pw_below_drewN | apply below_drew1) | exact HB.out)) hb); clear HB; have HB := n0_; clear n0_; (try clear hb); (try clear hb2); (try clear hk); (try clear hi)))
    go_ret
    exact ⟨by first | rfl | (simp [errW_none, errW_some] <;> rfl) | (simp [*, errW_none, errW_some] <;> rfl), by repeat (first | (with_reducible first | exact HB.out | apply below_alloc | apply pw_below_drewN | apply below_drew1) | exact HB.out)⟩
  · rw [if_neg c4] at H
    have c4b0 : (t419 == (a0.size : Int)) = false := beq_eq_false_iff_ne.mpr c4
    have c4b1 : (t419 != (a0.size : Int)) = true := bne_iff_ne.mpr c4
    by_cases c6 : 0 ≤ t419
    · rw [if_pos c6] at H
      have c6b0 : decide (0 ≤ t419) = true := decide_eq_true c6
      clear c6
      by_cases c7 : t419 < (a0.size : Int)
      · rw [if_pos c7] at H
        have c7b0 : decide (t419 < (a0.size : Int)) = true := decide_eq_true c7
        clear c7
        obtain rfl := Option.some.inj H
        go_enter Try.func21, Try.ntmps21
        go_wp2_with (first | ((with_reducible refine gate_callee (f := 19) rfl ?_); refine goesL_ (some 7) rfl rfl Try.func19 (by kernel_rfl) rfl #[.string a0, .int .i64 a1] rfl (by (try simp only [List.map_toArray, List.map_cons, List.map_nil]); first | done | rfl | (simp only [List.length_drop, List.length_take]; rfl)) ?_; (with_reducible refine (impl_spot.calls a0 a1 t419 _ A3.out).mono ?_); rintro e w9 ⟨rfl, hb⟩; refine ⟨_, rfl, ?_⟩; have n0_ := Aside0.mk (below_step (by repeat (first | (with_reducible first | exact HB.out | apply below_alloc | apply pw_below_drewN | apply below_drew1) | exact HB.out)) hb); clear HB; have HB := n0_; clear n0_; (try clear hb); (try clear hb2); (try clear hk); (try clear hi); have p8 : 0 ≤ (t419 : Int) := of_decide_eq_true (by first | (with_reducible assumption) | assumption); have q8 : t419 < (a0.size : Int) := of_decide_eq_true (by first | (with_reducible assumption) | assumption); have hx8 := bt_at a0 t419; replace p8 := eq_true p8; replace q8 := eq_true q8))
        go_ret
        exact ⟨by first | rfl | (simp [errW_none, errW_some] <;> rfl) | (simp [*, errW_none, errW_some] <;> rfl), by repeat (first | (with_reducible first | exact HB.out | apply below_alloc | apply pw_below_drewN | apply below_drew1) | exact HB.out)⟩
      · rw [if_neg c7] at H
        exact absurd H (by simp)
    · rw [if_neg c6] at H
      exact absurd H (by simp)

/-! ### impl_isWhite: function 22 -/
def impl_isWhite.f (a0 : Int) : Option (Bool) := if a0 = 32 then (some true) else (some (a0 == 9))
set_option maxHeartbeats 8000000 in
set_option maxRecDepth 100000 in
theorem impl_isWhite.calls (a0 : Int) (r : Bool) (w : World) (h : impl_isWhite.f a0 = some r) :
    Calls Try.prog 22 #[.int .i64 a0] w fun e w' => e = .returned (.bool r) ∧ Drawn0 w w' := by
  have H : (if a0 = 32 then (some true) else (some (a0 == 9))) = some r := h
  clear h
  by_cases c2 : a0 = 32
  · rw [if_pos c2] at H
    have c2b0 : (a0 == 32) = true := beq_iff_eq.mpr c2
    have c2b1 : (a0 != 32) = false := bne_eq_false_iff_eq.mpr c2
    clear c2
    obtain rfl := Option.some.inj H
    go_enter Try.func22, Try.ntmps22
    go_wp2
    go_ret
    exact ⟨by first | rfl | (simp; done) | (simp [*]; done), by repeat (first | exact Drawn0.refl _ | apply Drawn0.step)⟩
  · rw [if_neg c2] at H
    have c2b0 : (a0 == 32) = false := beq_eq_false_iff_ne.mpr c2
    have c2b1 : (a0 != 32) = true := bne_iff_ne.mpr c2
    obtain rfl := Option.some.inj H
    go_enter Try.func22, Try.ntmps22
    go_wp2
    go_ret
    exact ⟨by first | rfl | (simp; done) | (simp [*]; done), by repeat (first | exact Drawn0.refl _ | apply Drawn0.step)⟩

end Go.Proofs.Ytmkfodlmddbdeaa.PFnLines
