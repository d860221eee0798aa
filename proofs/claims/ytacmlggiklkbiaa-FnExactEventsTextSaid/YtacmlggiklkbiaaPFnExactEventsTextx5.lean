-- Written by a program of this session, out of the translation.
import Derived.Test.YtacmlggiklkbiaaPFnExactEventsTextx0
import Derived.Test.YtacmlggiklkbiaaPFnExactEventsTextx4
namespace Go.Proofs.Ytacmlggiklkbiaa.PFnExactEventsText
open Go.RowKit Go.Proofs.YtacmlggiklkbiaaW.PrintWords Go.Proofs.YtacmlggiklkbiaaW.PrintLast Go.Proofs.YtacmlggiklkbiaaW.PrintMore
attribute [local go_sem] max2_int min2_int max_two min_two max_three min_three max_four min_four   -- for this text's walks alone
set_option linter.unusedVariables false
set_option linter.unusedSimpArgs false

/-! ### laws_toEventS: function 18 -/
def laws_toEventS.l0 : Nat → List (S26) → List (S29) → Int → Option ((List (S29)))
 | 0, _, _, _ => none
 | k + 1, x0, x3, x4 => if x4 < (x0.length : Int) then (if 0 ≤ x4 then ((laws_toEvent.f ((rd_T26 x0 x4).f0) ((rd_T26 x0 x4).f1) ((rd_T26 x0 x4).f2) ((rd_T26 x0 x4).f3) ((rd_T26 x0 x4).f4) ((rd_T26 x0 x4).f5) ((rd_T26 x0 x4).f6) ((rd_T26 x0 x4).f7)).bind fun bt149 => (if x4 < (x3.length : Int) then (laws_toEventS.l0 k x0 (x3.set (x4 : Int).toNat (⟨bt149.1, bt149.2.1, bt149.2.2.1, bt149.2.2.2.1, bt149.2.2.2.2.1, bt149.2.2.2.2.2.1, bt149.2.2.2.2.2.2.1, bt149.2.2.2.2.2.2.2⟩ : S29)) (wrap64 (x4 + 1))) else (none))) else (none)) else (some x3)
def laws_toEventS.f (k : Nat) (l0 : List (S26)) : Option ((List (S29))) := if 0 ≤ (l0.length : Int) then (if ((l0.length : Int) : Int).toNat ≤ 3198579280802 then (laws_toEventS.l0 k l0 (List.replicate ((l0.length : Int) : Int).toNat z29) 0) else (none)) else (none)
theorem laws_toEventS.mono_l : ∀ k, (∀ y0 y1 y2, LeO (laws_toEventS.l0 k y0 y1 y2) (laws_toEventS.l0 (k + 1) y0 y1 y2))
 | 0 => fun _ _ _ r h => by simp [laws_toEventS.l0] at h
 | k + 1 => by
  have ih0 := laws_toEventS.mono_l k
  ·intro y0 y1 y2
   unfold laws_toEventS.l0
   repeat' first
   | (with_reducible exact ih0 _ _ _)
   | (with_reducible exact LeO.refl _)
   | (with_reducible exact LeO.none _)
   | (with_reducible refine LeO.ite ?_ ?_)
   | (with_reducible refine LeO.bind ?_ (fun _ => ?_))
   | exact ih0 _ _ _
   | exact LeO.none _
   | refine LeO.ite ?_ ?_
   | refine LeO.bind ?_ (fun _ => ?_)
theorem laws_toEventS.mono : ∀ a0 k, LeO (laws_toEventS.f k a0) (laws_toEventS.f (k + 1) a0) := by
 intro a0 k
 have ih0 := laws_toEventS.mono_l k
 unfold laws_toEventS.f
 repeat' first
   | (with_reducible exact ih0 _ _ _)
   | (with_reducible exact LeO.refl _)
   | (with_reducible exact LeO.none _)
   | (with_reducible refine LeO.ite ?_ ?_)
   | (with_reducible refine LeO.bind ?_ (fun _ => ?_))
   | exact ih0 _ _ _
   | exact LeO.none _
   | refine LeO.ite ?_ ?_
   | refine LeO.bind ?_ (fun _ => ?_)
set_option maxHeartbeats 8000000 in
set_option maxRecDepth 100000 in
theorem laws_toEventS.calls (k : Nat) (A0 : Option Addr) (c0 : Nat) (l0 : List (S26)) (r : List (S29)) (w : World) (hr0 : Kd.C k26 w A0 l0.length l0) (hc0 : l0.length ≤ c0) (h : laws_toEventS.f k l0 = some r) :
  Calls Try.prog 18 #[.slice A0 l0.length c0] w fun e w' => ∃ v0_ : Value, e = .returned (v0_) ∧ Kd.R k29 29 w' w.heap.size (fun _ => True) v0_ r ∧ Below w.heap.size w w' := by
 have hu26 := Try.underlying26
 have hu29 := Try.underlying29
 have HR0 := Aside0.mk hr0
 have HC0 := Aside0.mk hc0
 clear hr0 hc0
 have HB := Aside0.mk (Below.refl w.heap.size w)
 have H : (if 0 ≤ (l0.length : Int) then (if ((l0.length : Int) : Int).toNat ≤ 3198579280802 then (laws_toEventS.l0 k l0 (List.replicate ((l0.length : Int) : Int).toNat z29) 0) else (none)) else (none)) = some r := h
 clear h
 by_cases c2 : 0 ≤ (l0.length : Int)
 ·rw [if_pos c2] at H
  have c2b0 := eq_true c2
  have c2b1 : decide (0 ≤ (l0.length : Int)) = true := decide_eq_true c2
  clear c2
  by_cases c3 : ((l0.length : Int) : Int).toNat ≤ 3198579280802
  ·rw [if_pos c3] at H
   have c3b0 := eq_true c3
   have c3b1 : decide (((l0.length : Int) : Int).toNat ≤ 3198579280802) = true := decide_eq_true c3
   clear c3
   obtain ⟨y145, hy145⟩ : ∃ y_ : List (S29), y_ = (List.replicate ((l0.length : Int) : Int).toNat z29) := ⟨_, rfl⟩
   replace H : (laws_toEventS.l0 k l0 y145 0) = some r := by first | (rw [hy145]; with_reducible exact H) | (have H2_ := (Option.bind_some _ _).symm.trans H; rw [hy145]; with_reducible exact H2_) | (have H2_ := (Option.bind_some _ _).symm.trans H; with_reducible exact H2_) | with_reducible exact H | (rw [hy145]; exact H) | exact H
   have Ny145 := Aside0.mk hy145
   clear hy145
   have H' := Aside0.mk H
   clear H
   go_enter Try.func18, Try.ntmps18
   go_wp2_with (first | ((with_reducible refine gate_dst (N := 7) rfl ?_); refine Kd.R_make k29 _ 29 rfl (N := 7) rfl 36 _ _ rfl (l0.length : Int) rfl rfl Try.underlying36 (.agg #[(.int .i64 0), (.int .i64 0), (.bool false), (.string ⟨#[]⟩), (.string ⟨#[]⟩), (.string ⟨#[]⟩), (.int .i64 0), (.int .i64 0)]) 88 info29 rfl (by decide) (by omega) z29 (ok := fun _ => True) (okp := fun _ => True) (k29_mkM _ _ _ z29 ) (fun _ hk => hk) trivial (of_decide_eq_true (by first | (with_reducible assumption) | assumption)) (Nat.le_trans (Nat.mul_le_mul_right _ (of_decide_eq_true (by first | (with_reducible assumption) | assumption) : (l0.length : Int).toNat ≤ 3198579280802)) (by omega)) (Below.refl _ _) (Nat.le_refl _) ?_; intro v146 w4 ho5 hb hg_ hnew_; clear hg_ hnew_; (first | rw [← Ny145.out] at ho5 | (simp only [Int.reduceToNat] at ho5; rw [← Ny145.out] at ho5)); have n0_ := Aside0.mk (Kd.R_lower ho5 (below_size (by repeat (first | (with_reducible first | exact HB.out | apply below_alloc | apply pw_below_drewN | apply below_drew1) | exact HB.out)))); have n1_ := Aside0.mk (below_step (by repeat (first | (with_reducible first | exact HB.out | apply below_alloc | apply pw_below_drewN | apply below_drew1) | exact HB.out)) hb); clear HB; have HO147 := n0_; have HB := n1_; clear n0_ n1_; clear hb ho5))
   go_loopg [4] k (fun kq v4 w' => ∃ (x3_1 : List (S29)) (x4_1 : Int), v4 = .int .i64 x4_1 ∧ Aside0 (laws_toEventS.l0 kq l0 x3_1 x4_1 = some r) ∧ Aside0 (kq ≤ k) ∧ Aside0 (Kd.R k29 29 w' w.heap.size (fun _ => True) v146 x3_1) ∧ Aside0 (Below w.heap.size w w'))
   case atStart => exact ⟨(y145), (0), (by first | rfl | (simp; done) | (simp [*]; done)), H', ⟨Nat.le_refl _⟩, ⟨by (with_reducible repeat (first | apply Kd.R_alloc | apply Kd.R_drewN | apply Kd.R_drew)); exact HO147.out⟩, ⟨by repeat (first | (with_reducible first | exact HB.out | apply below_alloc | apply pw_below_drewN | apply below_drew1) | exact HB.out)⟩⟩
   case round =>
    clear H'
    obtain ⟨x3_1, x4_1, rfl, HA, HK1, HO_3, HB⟩ := hrel
    cases gk with
    | zero => exact absurd HA.out (by simp [laws_toEventS.l0])
    | succ k1 =>
     have H := HA.out
     clear HA
     simp only [laws_toEventS.l0] at H
     by_cases c6 : x4_1 < (l0.length : Int)
     ·rw [if_pos c6] at H
      have c6b0 : decide (x4_1 < (l0.length : Int)) = true := decide_eq_true c6
      clear c6
      by_cases c7 : 0 ≤ x4_1
      ·rw [if_pos c7] at H
       have c7b0 : decide (0 ≤ x4_1) = true := decide_eq_true c7
       clear c7
       replace H := Option.bind_eq_some_iff.mp H
       obtain ⟨⟨t149, t150, t151, t152, t153, t154, t155, t156⟩, A80, H⟩ := H
       replace H : (if x4_1 < (x3_1.length : Int) then (laws_toEventS.l0 k1 l0 (x3_1.set (x4_1 : Int).toNat (⟨t149, t150, t151, t152, t153, t154, t155, t156⟩ : S29)) (wrap64 (x4_1 + 1))) else (none)) = some r := H
       have A8 := Aside0.mk A80
       clear A80
       by_cases c9 : x4_1 < (x3_1.length : Int)
       ·rw [if_pos c9] at H
        have c9b0 : decide (x4_1 < (x3_1.length : Int)) = true := decide_eq_true c9
        clear c9
        obtain ⟨y157, hy157⟩ : ∃ y_ : List (S29), y_ = (x3_1.set (x4_1 : Int).toNat (⟨t149, t150, t151, t152, t153, t154, t155, t156⟩ : S29)) := ⟨_, rfl⟩
        replace H : (laws_toEventS.l0 k1 l0 y157 (wrap64 (x4_1 + 1))) = some r := by first | (rw [hy157]; with_reducible exact H) | (have H2_ := (Option.bind_some _ _).symm.trans H; rw [hy157]; with_reducible exact H2_) | (have H2_ := (Option.bind_some _ _).symm.trans H; with_reducible exact H2_) | with_reducible exact H | (rw [hy157]; exact H) | exact H
        have Ny157 := Aside0.mk hy157
        clear hy157
        have H' := Aside0.mk H
        clear H
        have p148 : 0 ≤ (x4_1 : Int) := of_decide_eq_true (by first | (with_reducible assumption) | assumption)
        have q148 : x4_1 < (l0.length : Int) := of_decide_eq_true (by first | (with_reducible assumption) | assumption)
        obtain ⟨ad148, e148, hx148_0, hx148_1, hx148_2, hx148_3, hx148_4, hx148_5, hx148_6, hx148_7⟩ := at_T26 HR0.out x4_1 p148 q148
        cases e148
        replace hx148_0 := (HB.out.cell (World.block_lt_of_cell? w _ hx148_0)).trans hx148_0
        replace hx148_1 := (HB.out.cell (World.block_lt_of_cell? w _ hx148_1)).trans hx148_1
        replace hx148_2 := (HB.out.cell (World.block_lt_of_cell? w _ hx148_2)).trans hx148_2
        replace hx148_3 := (HB.out.cell (World.block_lt_of_cell? w _ hx148_3)).trans hx148_3
        replace hx148_4 := (HB.out.cell (World.block_lt_of_cell? w _ hx148_4)).trans hx148_4
        replace hx148_5 := (HB.out.cell (World.block_lt_of_cell? w _ hx148_5)).trans hx148_5
        replace hx148_6 := (HB.out.cell (World.block_lt_of_cell? w _ hx148_6)).trans hx148_6
        replace hx148_7 := (HB.out.cell (World.block_lt_of_cell? w _ hx148_7)).trans hx148_7
        replace p148 := eq_true p148
        replace q148 := eq_true q148
        go_wp2_with (first | ((with_reducible refine gate_callee (f := 12) rfl ?_); refine goesL_ (some 20) rfl rfl Try.func12 (by kernel_rfl) rfl #[.agg #[.int .i64 ((rd_T26 l0 x4_1).f0), .int .i64 ((rd_T26 l0 x4_1).f1), .bool ((rd_T26 l0 x4_1).f2), .string ((rd_T26 l0 x4_1).f3), .string ((rd_T26 l0 x4_1).f4), .string ((rd_T26 l0 x4_1).f5), .int .i64 ((rd_T26 l0 x4_1).f6), .int .i64 ((rd_T26 l0 x4_1).f7)]] rfl (by (try simp only [List.map_toArray, List.map_cons, List.map_nil]); first | done | rfl | (simp only [List.length_drop, List.length_take]; rfl)) ?_; (with_reducible refine (laws_toEvent.calls ((rd_T26 l0 x4_1).f0) ((rd_T26 l0 x4_1).f1) ((rd_T26 l0 x4_1).f2) ((rd_T26 l0 x4_1).f3) ((rd_T26 l0 x4_1).f4) ((rd_T26 l0 x4_1).f5) ((rd_T26 l0 x4_1).f6) ((rd_T26 l0 x4_1).f7) t149 t150 t151 t152 t153 t154 t155 t156 _ A8.out).mono ?_); rintro e w11 ⟨rfl, hb⟩; refine ⟨_, rfl, ?_⟩; have n0_ := Aside0.mk (Kd.R_below (by (with_reducible repeat (first | apply Kd.R_alloc | apply Kd.R_drewN | apply Kd.R_drew)); exact HO_3.out) hb); have n1_ := Aside0.mk (below_step (by repeat (first | (with_reducible first | exact HB.out | apply below_alloc | apply pw_below_drewN | apply below_drew1) | exact HB.out)) hb); clear HO_3; clear HB; have HO_3 := n0_; have HB := n1_; clear n0_ n1_; (try clear hb); (try clear hb2); (try clear hk); (try clear hi); have p10 : 0 ≤ (x4_1 : Int) := of_decide_eq_true (by first | (with_reducible assumption) | assumption); have q10 : (x4_1 : Int) < ((x3_1.length : Int) : Int) := of_decide_eq_true (by first | (with_reducible assumption) | assumption); obtain ⟨go10, co10, eo10, gb10, gl10, cl10, HG10⟩ := Kd.R_form HO_3.out (by omega); (first | cases eo10 | (injection eo10 with ea_ en_ ec_; (first | subst ea_ | (injection ea_ with ea_; subst ea_)); subst ec_; clear en_)); have GB10 := Aside0.mk gb10; have GG10 := Aside0.mk HG10; clear gb10 gl10 HG10; obtain ⟨ce10, hcl10, hM10, hcc10, hfr10⟩ := Kd.R_elem HO_3.out z29 (x4_1 : Int) p10 q10; obtain rfl := k29_openM hM10; have hx10_0 : w11.cell? ⟨go10, (x4_1 : Int).toNat * 8, none⟩ = some (.int .i64 ((rd_T29 x3_1 x4_1).f0)) := hcc10 0 _ rfl; have hx10_1 : w11.cell? ⟨go10, (x4_1 : Int).toNat * 8 + 1, none⟩ = some (.int .i64 ((rd_T29 x3_1 x4_1).f1)) := hcc10 1 _ rfl; have hx10_2 : w11.cell? ⟨go10, (x4_1 : Int).toNat * 8 + 2, none⟩ = some (.bool ((rd_T29 x3_1 x4_1).f2)) := hcc10 2 _ rfl; have hx10_3 : w11.cell? ⟨go10, (x4_1 : Int).toNat * 8 + 3, none⟩ = some (.string ((rd_T29 x3_1 x4_1).f3)) := hcc10 3 _ rfl; have hx10_4 : w11.cell? ⟨go10, (x4_1 : Int).toNat * 8 + 4, none⟩ = some (.string ((rd_T29 x3_1 x4_1).f4)) := hcc10 4 _ rfl; have hx10_5 : w11.cell? ⟨go10, (x4_1 : Int).toNat * 8 + 5, none⟩ = some (.string ((rd_T29 x3_1 x4_1).f5)) := hcc10 5 _ rfl; have hx10_6 : w11.cell? ⟨go10, (x4_1 : Int).toNat * 8 + 6, none⟩ = some (.int .i64 ((rd_T29 x3_1 x4_1).f6)) := hcc10 6 _ rfl; have hx10_7 : w11.cell? ⟨go10, (x4_1 : Int).toNat * 8 + 7, none⟩ = some (.int .i64 ((rd_T29 x3_1 x4_1).f7)) := hcc10 7 _ rfl; have hf10_0 : w11.frozen? ⟨go10, (x4_1 : Int).toNat * 8, none⟩ = false := hfr10 0; have hf10_1 : w11.frozen? ⟨go10, (x4_1 : Int).toNat * 8 + 1, none⟩ = false := hfr10 1; have hf10_2 : w11.frozen? ⟨go10, (x4_1 : Int).toNat * 8 + 2, none⟩ = false := hfr10 2; have hf10_3 : w11.frozen? ⟨go10, (x4_1 : Int).toNat * 8 + 3, none⟩ = false := hfr10 3; have hf10_4 : w11.frozen? ⟨go10, (x4_1 : Int).toNat * 8 + 4, none⟩ = false := hfr10 4; have hf10_5 : w11.frozen? ⟨go10, (x4_1 : Int).toNat * 8 + 5, none⟩ = false := hfr10 5; have hf10_6 : w11.frozen? ⟨go10, (x4_1 : Int).toNat * 8 + 6, none⟩ = false := hfr10 6; have hf10_7 : w11.frozen? ⟨go10, (x4_1 : Int).toNat * 8 + 7, none⟩ = false := hfr10 7; clear hcl10 hcc10 hfr10 hM10; replace p10 := eq_true p10; replace q10 := eq_true q10; have HX12 := Aside0.mk (show Kd.R k29 29 w11 w.heap.size (fun _ => True) (.slice (some ⟨go10, 0, none⟩) x3_1.length co10) x3_1 from (by (with_reducible repeat (first | apply Kd.R_alloc | apply Kd.R_drewN | apply Kd.R_drew)); exact HO_3.out)); obtain ⟨ce12, hcl12, hM12, hcc12, hfr12⟩ := Kd.R_elem HX12.out z29 (x4_1 : Int) (of_decide_eq_true (by first | (with_reducible assumption) | assumption)) (by have h_ : (x4_1 : Int) < ((x3_1.length : Int) : Int) := of_decide_eq_true (by first | (with_reducible assumption) | assumption); first | exact h_ | (have e_ := (Kd.R_reads' HO_3.out).1; omega) | simpa using h_); obtain rfl := k29_openM hM12; have HP12 := Kd.R_seg HX12.out (x4_1 : Int) (of_decide_eq_true (by first | (with_reducible assumption) | assumption)) (by have h_ : (x4_1 : Int) < ((x3_1.length : Int) : Int) := of_decide_eq_true (by first | (with_reducible assumption) | assumption); first | exact h_ | (have e_ := (Kd.R_reads' HO_3.out).1; omega) | simpa using h_) (seg := [.int .i64 t149, .int .i64 t150, .bool t151, .string t152, .string t153, .string t154, .int .i64 t155, .int .i64 t156]) (j := 0) hcl12 hcc12 (show 8 ≤ 8 from by decide) (x' := (⟨t149, t150, t151, t152, t153, t154, t155, t156⟩ : S29)) (k29_mkM _ _ _ (⟨t149, t150, t151, t152, t153, t154, t155, t156⟩ : S29) ) (fun _ hk => hk); have hx12_0 := hcc12 0 _ rfl; (try simp only [show (k29).sz = 8 from rfl, Nat.mul_one, Nat.add_zero] at hx12_0); have hf12_0 := hfr12 0; (try simp only [show (k29).sz = 8 from rfl, Nat.mul_one, Nat.add_zero] at hf12_0); have hx12_1 := hcc12 1 _ rfl; (try simp only [show (k29).sz = 8 from rfl, Nat.mul_one, Nat.add_zero] at hx12_1); have hf12_1 := hfr12 1; (try simp only [show (k29).sz = 8 from rfl, Nat.mul_one, Nat.add_zero] at hf12_1); have hx12_2 := hcc12 2 _ rfl; (try simp only [show (k29).sz = 8 from rfl, Nat.mul_one, Nat.add_zero] at hx12_2); have hf12_2 := hfr12 2; (try simp only [show (k29).sz = 8 from rfl, Nat.mul_one, Nat.add_zero] at hf12_2); have hx12_3 := hcc12 3 _ rfl; (try simp only [show (k29).sz = 8 from rfl, Nat.mul_one, Nat.add_zero] at hx12_3); have hf12_3 := hfr12 3; (try simp only [show (k29).sz = 8 from rfl, Nat.mul_one, Nat.add_zero] at hf12_3); have hx12_4 := hcc12 4 _ rfl; (try simp only [show (k29).sz = 8 from rfl, Nat.mul_one, Nat.add_zero] at hx12_4); have hf12_4 := hfr12 4; (try simp only [show (k29).sz = 8 from rfl, Nat.mul_one, Nat.add_zero] at hf12_4); have hx12_5 := hcc12 5 _ rfl; (try simp only [show (k29).sz = 8 from rfl, Nat.mul_one, Nat.add_zero] at hx12_5); have hf12_5 := hfr12 5; (try simp only [show (k29).sz = 8 from rfl, Nat.mul_one, Nat.add_zero] at hf12_5); have hx12_6 := hcc12 6 _ rfl; (try simp only [show (k29).sz = 8 from rfl, Nat.mul_one, Nat.add_zero] at hx12_6); have hf12_6 := hfr12 6; (try simp only [show (k29).sz = 8 from rfl, Nat.mul_one, Nat.add_zero] at hf12_6); have hx12_7 := hcc12 7 _ rfl; (try simp only [show (k29).sz = 8 from rfl, Nat.mul_one, Nat.add_zero] at hx12_7); have hf12_7 := hfr12 7; (try simp only [show (k29).sz = 8 from rfl, Nat.mul_one, Nat.add_zero] at hf12_7); clear hcl12 hcc12 hfr12 hM12) | ((with_reducible refine gate_store (t := 29) (p := 21) rfl ?_); refine store_event (t := 29) (p := 21) (v := ?vo_w13) (w1 := ((((((((w11.setCell ⟨go10, (x4_1 : Int).toNat * 8, none⟩ (.int .i64 t149)).setCell ⟨go10, (x4_1 : Int).toNat * 8 + 1, none⟩ (.int .i64 t150)).setCell ⟨go10, (x4_1 : Int).toNat * 8 + 2, none⟩ (.bool t151)).setCell ⟨go10, (x4_1 : Int).toNat * 8 + 3, none⟩ (.string t152)).setCell ⟨go10, (x4_1 : Int).toNat * 8 + 4, none⟩ (.string t153)).setCell ⟨go10, (x4_1 : Int).toNat * 8 + 5, none⟩ (.string t154)).setCell ⟨go10, (x4_1 : Int).toNat * 8 + 6, none⟩ (.int .i64 t155)).setCell ⟨go10, (x4_1 : Int).toNat * 8 + 7, none⟩ (.int .i64 t156))) ?hg ?ho ?hn ?hr ?_; (case ho => rfl); (case hg => rfl); (case hn => rfl); (case hr => first | (go_simp; done) | (go_simp; rfl)); intro w13 hw; have hg : w11.grownBy w13 (some go10) := (by rw [hw]; exact HP12.2); have hp_ : Kd.R k29 29 w13 w.heap.size (fun _ => True) (.slice (some ⟨go10, 0, none⟩) x3_1.length co10) y157 := (by rw [hw, Ny157.out]; exact HP12.1); clear HP12; have n0_ := Aside0.mk (hp_); have n1_ := Aside0.mk ((by rw [hw]; exact below_set (below_set (below_set (below_set (below_set (below_set (below_set (below_set (HB.out) GB10.out) GB10.out) GB10.out) GB10.out) GB10.out) GB10.out) GB10.out) GB10.out : Below w.heap.size w w13)); clear HO_3; clear HB; have HO_3 := n0_; have HB := n1_; clear n0_ n1_; clear hg hw hp_))
        go_roundg k1
        case measure => have := HK1.out; omega
        case rel => exact ⟨(y157), (wrap64 (x4_1 + 1)), (by first | rfl | (simp; done) | (simp [*]; done)), H', ⟨by have := HK1.out; omega⟩, ⟨by (with_reducible repeat (first | apply Kd.R_alloc | apply Kd.R_drewN | apply Kd.R_drew)); exact HO_3.out⟩, ⟨by repeat (first | (with_reducible first | exact HB.out | apply below_alloc | apply pw_below_drewN | apply below_drew1) | exact HB.out)⟩⟩
       ·rw [if_neg c9] at H
        exact absurd H (by simp)
      ·rw [if_neg c7] at H
       exact absurd H (by simp)
     ·rw [if_neg c6] at H
      have c6b0 : decide (x4_1 < (l0.length : Int)) = false := decide_eq_false c6
      clear c6
      obtain rfl := Option.some.inj H
      go_wp2
      go_ret
      exact ⟨_, by first | rfl | (simp [errW_none, errW_some] <;> rfl) | (simp [*, errW_none, errW_some] <;> rfl), by (with_reducible repeat (first | apply Kd.R_alloc | apply Kd.R_drewN | apply Kd.R_drew)); exact HO_3.out, by repeat (first | (with_reducible first | exact HB.out | apply below_alloc | apply pw_below_drewN | apply below_drew1) | exact HB.out)⟩
  ·rw [if_neg c3] at H
   exact absurd H (by simp)
 ·rw [if_neg c2] at H
  exact absurd H (by simp)

/-! ### impl_within: function 37 -/
def impl_within.f (a0 : Int) (a1 : Int) (a2 : Int) : Option (Bool) := if a0 ≥ a1 then (some (decide (a0 ≤ a2))) else (some false)
set_option maxHeartbeats 8000000 in
set_option maxRecDepth 100000 in
theorem impl_within.calls (a0 : Int) (a1 : Int) (a2 : Int) (r : Bool) (w : World) (h : impl_within.f a0 a1 a2 = some r) :
  Calls Try.prog 37 #[.int .i64 a0, .int .i64 a1, .int .i64 a2] w fun e w' => e = .returned (.bool r) ∧ Drawn0 w w' := by
 have H : (if a0 ≥ a1 then (some (decide (a0 ≤ a2))) else (some false)) = some r := h
 clear h
 by_cases c4 : a0 ≥ a1
 ·rw [if_pos c4] at H
  have c4b0 : decide (a1 ≤ a0) = true := decide_eq_true c4
  clear c4
  obtain rfl := Option.some.inj H
  go_enter Try.func37, Try.ntmps37
  go_wp2
  go_ret
  exact ⟨by first | rfl | (simp; done) | (simp [*]; done), by repeat (first | exact Drawn0.refl _ | apply Drawn0.step)⟩
 ·rw [if_neg c4] at H
  have c4b0 : decide (a1 ≤ a0) = false := decide_eq_false c4
  clear c4
  obtain rfl := Option.some.inj H
  go_enter Try.func37, Try.ntmps37
  go_wp2
  go_ret
  exact ⟨by first | rfl | (simp; done) | (simp [*]; done), by repeat (first | exact Drawn0.refl _ | apply Drawn0.step)⟩

/-! ### impl_isWhite: function 35 -/
def impl_isWhite.f (a0 : Int) : Option (Bool) := if a0 = 32 then (some true) else (some (a0 == 9))
set_option maxHeartbeats 8000000 in
set_option maxRecDepth 100000 in
theorem impl_isWhite.calls (a0 : Int) (r : Bool) (w : World) (h : impl_isWhite.f a0 = some r) :
  Calls Try.prog 35 #[.int .i64 a0] w fun e w' => e = .returned (.bool r) ∧ Drawn0 w w' := by
 have H : (if a0 = 32 then (some true) else (some (a0 == 9))) = some r := h
 clear h
 by_cases c2 : a0 = 32
 ·rw [if_pos c2] at H
  have c2b0 : (a0 == 32) = true := beq_iff_eq.mpr c2
  have c2b1 : (a0 != 32) = false := bne_eq_false_iff_eq.mpr c2
  clear c2
  obtain rfl := Option.some.inj H
  go_enter Try.func35, Try.ntmps35
  go_wp2
  go_ret
  exact ⟨by first | rfl | (simp; done) | (simp [*]; done), by repeat (first | exact Drawn0.refl _ | apply Drawn0.step)⟩
 ·rw [if_neg c2] at H
  have c2b0 : (a0 == 32) = false := beq_eq_false_iff_ne.mpr c2
  have c2b1 : (a0 != 32) = true := bne_iff_ne.mpr c2
  obtain rfl := Option.some.inj H
  go_enter Try.func35, Try.ntmps35
  go_wp2
  go_ret
  exact ⟨by first | rfl | (simp; done) | (simp [*]; done), by repeat (first | exact Drawn0.refl _ | apply Drawn0.step)⟩

/-! ### impl_isBreak: function 58 -/
def impl_isBreak.f (a0 : Int) : Option (Bool) := if a0 = 10 then (some true) else (some (decide (a0 < 0)))
set_option maxHeartbeats 8000000 in
set_option maxRecDepth 100000 in
theorem impl_isBreak.calls (a0 : Int) (r : Bool) (w : World) (h : impl_isBreak.f a0 = some r) :
  Calls Try.prog 58 #[.int .i64 a0] w fun e w' => e = .returned (.bool r) ∧ Drawn0 w w' := by
 have H : (if a0 = 10 then (some true) else (some (decide (a0 < 0)))) = some r := h
 clear h
 by_cases c2 : a0 = 10
 ·rw [if_pos c2] at H
  have c2b0 : (a0 == 10) = true := beq_iff_eq.mpr c2
  have c2b1 : (a0 != 10) = false := bne_eq_false_iff_eq.mpr c2
  clear c2
  obtain rfl := Option.some.inj H
  go_enter Try.func58, Try.ntmps58
  go_wp2
  go_ret
  exact ⟨by first | rfl | (simp; done) | (simp [*]; done), by repeat (first | exact Drawn0.refl _ | apply Drawn0.step)⟩
 ·rw [if_neg c2] at H
  have c2b0 : (a0 == 10) = false := beq_eq_false_iff_ne.mpr c2
  have c2b1 : (a0 != 10) = true := bne_iff_ne.mpr c2
  obtain rfl := Option.some.inj H
  go_enter Try.func58, Try.ntmps58
  go_wp2
  go_ret
  exact ⟨by first | rfl | (simp; done) | (simp [*]; done), by repeat (first | exact Drawn0.refl _ | apply Drawn0.step)⟩

/-! ### impl_isFlow: function 59 -/
def impl_isFlow.f (a0 : Int) : Option (Bool) := if a0 = 44 then (some true) else (if a0 = 91 then (some true) else (if a0 = 93 then (some true) else (if a0 = 123 then (some true) else (some (a0 == 125)))))
set_option maxHeartbeats 8000000 in
set_option maxRecDepth 100000 in
theorem impl_isFlow.calls (a0 : Int) (r : Bool) (w : World) (h : impl_isFlow.f a0 = some r) :
  Calls Try.prog 59 #[.int .i64 a0] w fun e w' => e = .returned (.bool r) ∧ Drawn0 w w' := by
 have H : (if a0 = 44 then (some true) else (if a0 = 91 then (some true) else (if a0 = 93 then (some true) else (if a0 = 123 then (some true) else (some (a0 == 125)))))) = some r := h
 clear h
 by_cases c2 : a0 = 44
 ·rw [if_pos c2] at H
  have c2b0 : (a0 == 44) = true := beq_iff_eq.mpr c2
  have c2b1 : (a0 != 44) = false := bne_eq_false_iff_eq.mpr c2
  clear c2
  obtain rfl := Option.some.inj H
  go_enter Try.func59, Try.ntmps59
  go_wp2
  go_ret
  exact ⟨by first | rfl | (simp; done) | (simp [*]; done), by repeat (first | exact Drawn0.refl _ | apply Drawn0.step)⟩
 ·rw [if_neg c2] at H
  have c2b0 : (a0 == 44) = false := beq_eq_false_iff_ne.mpr c2
  have c2b1 : (a0 != 44) = true := bne_iff_ne.mpr c2
  by_cases c3 : a0 = 91
  ·rw [if_pos c3] at H
   have c3b0 : (a0 == 91) = true := beq_iff_eq.mpr c3
   have c3b1 : (a0 != 91) = false := bne_eq_false_iff_eq.mpr c3
   clear c3
   obtain rfl := Option.some.inj H
   go_enter Try.func59, Try.ntmps59
   go_wp2
   go_ret
   exact ⟨by first | rfl | (simp; done) | (simp [*]; done), by repeat (first | exact Drawn0.refl _ | apply Drawn0.step)⟩
  ·rw [if_neg c3] at H
   have c3b0 : (a0 == 91) = false := beq_eq_false_iff_ne.mpr c3
   have c3b1 : (a0 != 91) = true := bne_iff_ne.mpr c3
   by_cases c4 : a0 = 93
   ·rw [if_pos c4] at H
    have c4b0 : (a0 == 93) = true := beq_iff_eq.mpr c4
    have c4b1 : (a0 != 93) = false := bne_eq_false_iff_eq.mpr c4
    clear c4
    obtain rfl := Option.some.inj H
    go_enter Try.func59, Try.ntmps59
    go_wp2
    go_ret
    exact ⟨by first | rfl | (simp; done) | (simp [*]; done), by repeat (first | exact Drawn0.refl _ | apply Drawn0.step)⟩
   ·rw [if_neg c4] at H
    have c4b0 : (a0 == 93) = false := beq_eq_false_iff_ne.mpr c4
    have c4b1 : (a0 != 93) = true := bne_iff_ne.mpr c4
    by_cases c5 : a0 = 123
    ·rw [if_pos c5] at H
     have c5b0 : (a0 == 123) = true := beq_iff_eq.mpr c5
     have c5b1 : (a0 != 123) = false := bne_eq_false_iff_eq.mpr c5
     clear c5
     obtain rfl := Option.some.inj H
     go_enter Try.func59, Try.ntmps59
     go_wp2
     go_ret
     exact ⟨by first | rfl | (simp; done) | (simp [*]; done), by repeat (first | exact Drawn0.refl _ | apply Drawn0.step)⟩
    ·rw [if_neg c5] at H
     have c5b0 : (a0 == 123) = false := beq_eq_false_iff_ne.mpr c5
     have c5b1 : (a0 != 123) = true := bne_iff_ne.mpr c5
     obtain rfl := Option.some.inj H
     go_enter Try.func59, Try.ntmps59
     go_wp2
     go_ret
     exact ⟨by first | rfl | (simp; done) | (simp [*]; done), by repeat (first | exact Drawn0.refl _ | apply Drawn0.step)⟩

/-! ### impl_isName: function 38 -/
def impl_isName.l0 : Nat → ByteArray → Int → Int → Option (Bool)
 | 0, _, _, _ => none
 | k + 1, x0, x9, x10 => if x10 < x9 then (if 0 ≤ x10 then (if x10 < (x0.size : Int) then ((impl_isWhite.f (wrap64 (bt x0 x10))).bind fun t158 => (if t158 = true then (some false) else ((impl_isBreak.f (wrap64 (bt x0 x10))).bind fun t159 => (if t159 = true then (some false) else ((impl_isFlow.f (wrap64 (bt x0 x10))).bind fun t160 => (if t160 = true then (some false) else (impl_isName.l0 k x0 x9 (wrap64 (x10 + 1))))))))) else (none)) else (none)) else (some true)
def impl_isName.f (k : Nat) (a0 : ByteArray) : Option (Bool) := if (a0.size : Int) > 60 then (some false) else (impl_isName.l0 k a0 (a0.size : Int) 0)
theorem impl_isName.mono_l : ∀ k, (∀ y0 y1 y2, LeO (impl_isName.l0 k y0 y1 y2) (impl_isName.l0 (k + 1) y0 y1 y2))
 | 0 => fun _ _ _ r h => by simp [impl_isName.l0] at h
 | k + 1 => by
  have ih0 := impl_isName.mono_l k
  ·intro y0 y1 y2
   unfold impl_isName.l0
   repeat' first
   | (with_reducible exact ih0 _ _ _)
   | (with_reducible exact LeO.refl _)
   | (with_reducible exact LeO.none _)
   | (with_reducible refine LeO.ite ?_ ?_)
   | (with_reducible refine LeO.bind ?_ (fun _ => ?_))
   | exact ih0 _ _ _
   | exact LeO.none _
   | refine LeO.ite ?_ ?_
   | refine LeO.bind ?_ (fun _ => ?_)
theorem impl_isName.mono : ∀ a0 k, LeO (impl_isName.f k a0) (impl_isName.f (k + 1) a0) := by
 intro a0 k
 have ih0 := impl_isName.mono_l k
 unfold impl_isName.f
 repeat' first
   | (with_reducible exact ih0 _ _ _)
   | (with_reducible exact LeO.refl _)
   | (with_reducible exact LeO.none _)
   | (with_reducible refine LeO.ite ?_ ?_)
   | (with_reducible refine LeO.bind ?_ (fun _ => ?_))
   | exact ih0 _ _ _
   | exact LeO.none _
   | refine LeO.ite ?_ ?_
   | refine LeO.bind ?_ (fun _ => ?_)
set_option maxHeartbeats 8000000 in
set_option maxRecDepth 100000 in
theorem impl_isName.calls (k : Nat) (a0 : ByteArray) (r : Bool) (w : World) (h : impl_isName.f k a0 = some r) :
  Calls Try.prog 38 #[.string a0] w fun e w' => e = .returned (.bool r) ∧ Drawn0 w w' := by
 have H : (if (a0.size : Int) > 60 then (some false) else (impl_isName.l0 k a0 (a0.size : Int) 0)) = some r := h
 clear h
 by_cases c2 : (a0.size : Int) > 60
 ·rw [if_pos c2] at H
  have c2b0 : decide (60 < (a0.size : Int)) = true := decide_eq_true c2
  have c2b1 : decide (60 < a0.size) = true := decide_eq_true (by omega)
  clear c2
  obtain rfl := Option.some.inj H
  go_enter Try.func38, Try.ntmps38
  go_wp2
  go_ret
  exact ⟨by first | rfl | (simp; done) | (simp [*]; done), by repeat (first | exact Drawn0.refl _ | apply Drawn0.step)⟩
 ·rw [if_neg c2] at H
  have c2b0 : decide (60 < (a0.size : Int)) = false := decide_eq_false c2
  have c2b1 : decide (60 < a0.size) = false := decide_eq_false (by omega)
  clear c2
  have H' := Aside0.mk H
  clear H
  go_enter Try.func38, Try.ntmps38
  go_wp2
  go_loopg [10] k (fun kq v10 w' => ∃ (x10_1 : Int), v10 = .int .i64 x10_1 ∧ Aside0 (impl_isName.l0 kq a0 (a0.size : Int) x10_1 = some r) ∧ Aside0 (kq ≤ k) ∧ Drawn0 w w')
  case atStart => exact ⟨(0), (by first | rfl | (simp; done) | (simp [*]; done)), H', ⟨Nat.le_refl _⟩, by repeat (first | exact Drawn0.refl _ | apply Drawn0.step)⟩
  case round =>
   clear H'
   obtain ⟨x10_1, rfl, HA, HK1, ⟨m1, rfl⟩⟩ := hrel
   cases gk with
   | zero => exact absurd HA.out (by simp [impl_isName.l0])
   | succ k1 =>
    have H := HA.out
    clear HA
    simp only [impl_isName.l0] at H
    by_cases c3 : x10_1 < (a0.size : Int)
    ·rw [if_pos c3] at H
     have c3b0 : decide (x10_1 < (a0.size : Int)) = true := decide_eq_true c3
     clear c3
     by_cases c4 : 0 ≤ x10_1
     ·rw [if_pos c4] at H
      have c4b0 : decide (0 ≤ x10_1) = true := decide_eq_true c4
      clear c4
      by_cases c5 : x10_1 < (a0.size : Int)
      ·rw [if_pos c5] at H
       have c5b0 : decide (x10_1 < (a0.size : Int)) = true := decide_eq_true c5
       clear c5
       replace H := Option.bind_eq_some_iff.mp H
       obtain ⟨t158, A70, H⟩ := H
       replace H : (if t158 = true then (some false) else ((impl_isBreak.f (wrap64 (bt a0 x10_1))).bind fun t159 => (if t159 = true then (some false) else ((impl_isFlow.f (wrap64 (bt a0 x10_1))).bind fun t160 => (if t160 = true then (some false) else (impl_isName.l0 k1 a0 (a0.size : Int) (wrap64 (x10_1 + 1)))))))) = some r := H
       have A7 := Aside0.mk A70
       clear A70
       by_cases c8 : t158 = true
       ·subst c8
        have H1 : (some false) = some r := by rw [if_pos rfl] at H; exact H
        clear H
        have H := H1
        clear H1
        obtain rfl := Option.some.inj H
        have p6 : 0 ≤ (x10_1 : Int) := of_decide_eq_true (by first | (with_reducible assumption) | assumption)
        have q6 : x10_1 < (a0.size : Int) := of_decide_eq_true (by first | (with_reducible assumption) | assumption)
        have hx6 := bt_at a0 x10_1
        replace p6 := eq_true p6
        replace q6 := eq_true q6
        go_wp2_with (first | ((with_reducible refine gate_callee (f := 35) rfl ?_); refine goesL_ (some 18) rfl rfl Try.func35 (by kernel_rfl) rfl #[.int .i64 (wrap64 (bt a0 x10_1))] rfl (by (try simp only [List.map_toArray, List.map_cons, List.map_nil]); first | done | rfl | (simp only [List.length_drop, List.length_take]; rfl)) ?_; (with_reducible refine (impl_isWhite.calls (wrap64 (bt a0 x10_1)) true _ A7.out).mono ?_); rintro e w' ⟨rfl, ⟨nd, rfl⟩⟩; refine ⟨_, rfl, ?_⟩))
        go_ret
        exact ⟨by first | rfl | (simp; done) | (simp [*]; done), by repeat (first | exact Drawn0.refl _ | apply Drawn0.step)⟩
       ·replace c8 := Bool.eq_false_iff.mpr c8
        subst c8
        have H1 : ((impl_isBreak.f (wrap64 (bt a0 x10_1))).bind fun t159 => (if t159 = true then (some false) else ((impl_isFlow.f (wrap64 (bt a0 x10_1))).bind fun t160 => (if t160 = true then (some false) else (impl_isName.l0 k1 a0 (a0.size : Int) (wrap64 (x10_1 + 1))))))) = some r := by rw [if_neg (show ¬ (false = true) by decide)] at H; exact H
        clear H
        have H := H1
        clear H1
        replace H := Option.bind_eq_some_iff.mp H
        obtain ⟨t159, A90, H⟩ := H
        replace H : (if t159 = true then (some false) else ((impl_isFlow.f (wrap64 (bt a0 x10_1))).bind fun t160 => (if t160 = true then (some false) else (impl_isName.l0 k1 a0 (a0.size : Int) (wrap64 (x10_1 + 1)))))) = some r := H
        have A9 := Aside0.mk A90
        clear A90
        by_cases c10 : t159 = true
        ·subst c10
         have H1 : (some false) = some r := by rw [if_pos rfl] at H; exact H
         clear H
         have H := H1
         clear H1
         obtain rfl := Option.some.inj H
         have p6 : 0 ≤ (x10_1 : Int) := of_decide_eq_true (by first | (with_reducible assumption) | assumption)
         have q6 : x10_1 < (a0.size : Int) := of_decide_eq_true (by first | (with_reducible assumption) | assumption)
         have hx6 := bt_at a0 x10_1
         replace p6 := eq_true p6
         replace q6 := eq_true q6
         go_wp2_with (first | ((with_reducible refine gate_callee (f := 35) rfl ?_); refine goesL_ (some 18) rfl rfl Try.func35 (by kernel_rfl) rfl #[.int .i64 (wrap64 (bt a0 x10_1))] rfl (by (try simp only [List.map_toArray, List.map_cons, List.map_nil]); first | done | rfl | (simp only [List.length_drop, List.length_take]; rfl)) ?_; (with_reducible refine (impl_isWhite.calls (wrap64 (bt a0 x10_1)) false _ A7.out).mono ?_); rintro e w' ⟨rfl, ⟨nd, rfl⟩⟩; refine ⟨_, rfl, ?_⟩) | (go_at_call 58; (with_reducible refine (impl_isBreak.calls (wrap64 (bt a0 x10_1)) true _ A9.out).mono ?_); rintro e w' ⟨rfl, ⟨nd, rfl⟩⟩))
         go_ret
         exact ⟨by first | rfl | (simp; done) | (simp [*]; done), by repeat (first | exact Drawn0.refl _ | apply Drawn0.step)⟩
        ·replace c10 := Bool.eq_false_iff.mpr c10
         subst c10
         have H1 : ((impl_isFlow.f (wrap64 (bt a0 x10_1))).bind fun t160 => (if t160 = true then (some false) else (impl_isName.l0 k1 a0 (a0.size : Int) (wrap64 (x10_1 + 1))))) = some r := by rw [if_neg (show ¬ (false = true) by decide)] at H; exact H
         clear H
         have H := H1
         clear H1
         replace H := Option.bind_eq_some_iff.mp H
         obtain ⟨t160, A110, H⟩ := H
         replace H : (if t160 = true then (some false) else (impl_isName.l0 k1 a0 (a0.size : Int) (wrap64 (x10_1 + 1)))) = some r := H
         have A11 := Aside0.mk A110
         clear A110
         by_cases c12 : t160 = true
         ·subst c12
          have H1 : (some false) = some r := by rw [if_pos rfl] at H; exact H
          clear H
          have H := H1
          clear H1
          obtain rfl := Option.some.inj H
          have p6 : 0 ≤ (x10_1 : Int) := of_decide_eq_true (by first | (with_reducible assumption) | assumption)
          have q6 : x10_1 < (a0.size : Int) := of_decide_eq_true (by first | (with_reducible assumption) | assumption)
          have hx6 := bt_at a0 x10_1
          replace p6 := eq_true p6
          replace q6 := eq_true q6
          go_wp2_with (first | ((with_reducible refine gate_callee (f := 35) rfl ?_); refine goesL_ (some 18) rfl rfl Try.func35 (by kernel_rfl) rfl #[.int .i64 (wrap64 (bt a0 x10_1))] rfl (by (try simp only [List.map_toArray, List.map_cons, List.map_nil]); first | done | rfl | (simp only [List.length_drop, List.length_take]; rfl)) ?_; (with_reducible refine (impl_isWhite.calls (wrap64 (bt a0 x10_1)) false _ A7.out).mono ?_); rintro e w' ⟨rfl, ⟨nd, rfl⟩⟩; refine ⟨_, rfl, ?_⟩) | (go_at_call 58; (with_reducible refine (impl_isBreak.calls (wrap64 (bt a0 x10_1)) false _ A9.out).mono ?_); rintro e w' ⟨rfl, ⟨nd, rfl⟩⟩) | (go_at_call 59; (with_reducible refine (impl_isFlow.calls (wrap64 (bt a0 x10_1)) true _ A11.out).mono ?_); rintro e w' ⟨rfl, ⟨nd, rfl⟩⟩))
          go_ret
          exact ⟨by first | rfl | (simp; done) | (simp [*]; done), by repeat (first | exact Drawn0.refl _ | apply Drawn0.step)⟩
         ·replace c12 := Bool.eq_false_iff.mpr c12
          subst c12
          have H1 : (impl_isName.l0 k1 a0 (a0.size : Int) (wrap64 (x10_1 + 1))) = some r := by rw [if_neg (show ¬ (false = true) by decide)] at H; exact H
          clear H
          have H := H1
          clear H1
          have H' := Aside0.mk H
          clear H
          have p6 : 0 ≤ (x10_1 : Int) := of_decide_eq_true (by first | (with_reducible assumption) | assumption)
          have q6 : x10_1 < (a0.size : Int) := of_decide_eq_true (by first | (with_reducible assumption) | assumption)
          have hx6 := bt_at a0 x10_1
          replace p6 := eq_true p6
          replace q6 := eq_true q6
          go_wp2_with (first | ((with_reducible refine gate_callee (f := 35) rfl ?_); refine goesL_ (some 18) rfl rfl Try.func35 (by kernel_rfl) rfl #[.int .i64 (wrap64 (bt a0 x10_1))] rfl (by (try simp only [List.map_toArray, List.map_cons, List.map_nil]); first | done | rfl | (simp only [List.length_drop, List.length_take]; rfl)) ?_; (with_reducible refine (impl_isWhite.calls (wrap64 (bt a0 x10_1)) false _ A7.out).mono ?_); rintro e w' ⟨rfl, ⟨nd, rfl⟩⟩; refine ⟨_, rfl, ?_⟩) | (go_at_call 58; (with_reducible refine (impl_isBreak.calls (wrap64 (bt a0 x10_1)) false _ A9.out).mono ?_); rintro e w' ⟨rfl, ⟨nd, rfl⟩⟩) | (go_at_call 59; (with_reducible refine (impl_isFlow.calls (wrap64 (bt a0 x10_1)) false _ A11.out).mono ?_); rintro e w' ⟨rfl, ⟨nd, rfl⟩⟩))
          go_roundg k1
          case measure => have := HK1.out; omega
          case rel => exact ⟨(wrap64 (x10_1 + 1)), (by first | rfl | (simp; done) | (simp [*]; done)), H', ⟨by have := HK1.out; omega⟩, by repeat (first | exact Drawn0.refl _ | apply Drawn0.step)⟩
      ·rw [if_neg c5] at H
       exact absurd H (by simp)
     ·rw [if_neg c4] at H
      exact absurd H (by simp)
    ·rw [if_neg c3] at H
     have c3b0 : decide (x10_1 < (a0.size : Int)) = false := decide_eq_false c3
     clear c3
     obtain rfl := Option.some.inj H
     go_wp2
     go_ret
     exact ⟨by first | rfl | (simp; done) | (simp [*]; done), by repeat (first | exact Drawn0.refl _ | apply Drawn0.step)⟩

/-! ### impl_EventOk: function 13 -/
def impl_EventOk.pre (k : Nat) (kind style : Int) (text : ByteArray) (at_ code : Int) : Option Bool :=
 if kind = 1 ∨ kind = 7 ∨ kind = 9 ∨ kind = 2 ∨ kind = 8 then some true
 else if kind = 3 ∨ kind = 4 then impl_within.f style 6 7
 else if kind = 5 then impl_within.f style 1 5
 else if kind = 6 then (if text.toList.isEmpty = true then some false else impl_isName.f k text)
 else if kind = 10 then ((impl_within.f code 1 99).bind fun b => (if b = true then some (!decide (at_ < 0)) else some false))
 else some false
def impl_EventOk.os (kind style : Int) : Int := if kind = 3 ∨ kind = 4 ∨ kind = 5 then style else 0
def impl_EventOk.ofl (kind : Int) (flag : Bool) : Bool := if kind = 2 ∨ kind = 8 then flag else false
def impl_EventOk.ot (kind : Int) (text : ByteArray) : ByteArray := if kind = 5 ∨ kind = 6 then text else ⟨#[]⟩
def impl_EventOk.oa (kind : Int) (anchor : ByteArray) : ByteArray := if kind = 3 ∨ kind = 4 ∨ kind = 5 then anchor else ⟨#[]⟩
def impl_EventOk.oc (kind code : Int) : Int := if kind = 10 then code else 0
def impl_EventOk.eqB (kind style : Int) (flag : Bool) (text anchor tag : ByteArray) (at_ code os : Int) (ofl : Bool) (ot oa og : ByteArray) (oat oc : Int) : Bool := kind == kind && (style == os && (flag == ofl && (text.toList == ot.toList && (anchor.toList == oa.toList && (tag.toList == og.toList && (at_ == oat && (code == oc)))))))
def impl_EventOk.eqE (kind style : Int) (flag : Bool) (text anchor tag : ByteArray) (at_ code : Int) : Bool :=
 impl_EventOk.eqB kind style flag text anchor tag at_ code (impl_EventOk.os kind style) (impl_EventOk.ofl kind flag) (impl_EventOk.ot kind text) (impl_EventOk.oa kind anchor) (impl_EventOk.oa kind tag) (impl_EventOk.oc kind at_) (impl_EventOk.oc kind code)
def impl_EventOk.f (k : Nat) (kind style : Int) (flag : Bool) (text anchor tag : ByteArray) (at_ code : Int) : Option Bool :=
 (impl_EventOk.pre k kind style text at_ code).bind fun ok => (if ok = true then (if impl_EventOk.eqE kind style flag text anchor tag at_ code = true then ((impl_isName.f k anchor).bind fun n => (if n = true then some (decide ((tag.size : Int) ≤ 120)) else some false)) else some false) else some false)
theorem impl_EventOk.mono : ∀ a0 a1 a2 a3 a4 a5 a6 a7 k, LeO (impl_EventOk.f k a0 a1 a2 a3 a4 a5 a6 a7) (impl_EventOk.f (k + 1) a0 a1 a2 a3 a4 a5 a6 a7) := by
 intro a0 a1 a2 a3 a4 a5 a6 a7 k
 unfold impl_EventOk.f impl_EventOk.pre
 repeat' first
  | (with_reducible exact impl_isName.mono _ _)
  | (with_reducible exact LeO.refl _)
  | (with_reducible exact LeO.none _)
  | (with_reducible refine LeO.ite ?_ ?_)
  | (with_reducible refine LeO.bind ?_ (fun _ => ?_))
/-- The switch's own answer in memory: e at block ge, own at block go. -/
def EvAt (w W : World) (ge go : Nat) (kind style : Int) (flag : Bool) (text anchor tag : ByteArray) (at_ code : Int) (os : Int) (ofl : Bool) (ot oa og : ByteArray) (oat oc : Int) : Prop :=
 ge ≠ go ∧ w.heap.size ≤ ge ∧ w.heap.size ≤ go ∧ Below w.heap.size w W ∧ W.heap[ge]? = some (.cells #[.int .i64 kind, .int .i64 style, .bool flag, .string text, .string anchor, .string tag, .int .i64 at_, .int .i64 code] 29 (0, 0)) ∧ W.heap[go]? = some (.cells #[.int .i64 kind, .int .i64 os, .bool ofl, .string ot, .string oa, .string og, .int .i64 oat, .int .i64 oc] 29 (0, 0))
theorem EvAt.below {w W W1 : World} {ge go : Nat} {kind style : Int} {flag : Bool} {text anchor tag : ByteArray} {at_ code os : Int} {ofl : Bool} {ot oa og : ByteArray} {oat oc : Int} (h : EvAt w W ge go kind style flag text anchor tag at_ code os ofl ot oa og oat oc) (hb : Below W.heap.size W W1) : EvAt w W1 ge go kind style flag text anchor tag at_ code os ofl ot oa og oat oc := by
 obtain ⟨h1, h2, h3, h4, h5, h6⟩ := h
 exact ⟨h1, h2, h3, below_then h4 h4.size hb, (hb.block ge (blk_lt h5)).trans h5, (hb.block go (blk_lt h6)).trans h6⟩
theorem EvAt.set {w W : World} {ge go : Nat} {kind style : Int} {flag : Bool} {text anchor tag : ByteArray} {at_ code os : Int} {ofl : Bool} {ot oa og : ByteArray} {oat oc : Int} (h : EvAt w W ge go kind style flag text anchor tag at_ code os ofl ot oa og oat oc) (j : Nat) (u : Value) {os' : Int} {ofl' : Bool} {ot' oa' og' : ByteArray} {oat' oc' : Int}
  (hu : (#[.int .i64 kind, .int .i64 os, .bool ofl, .string ot, .string oa, .string og, .int .i64 oat, .int .i64 oc] : Array Value).setIfInBounds j u = #[.int .i64 kind, .int .i64 os', .bool ofl', .string ot', .string oa', .string og', .int .i64 oat', .int .i64 oc']) : EvAt w (W.setCell ⟨go, j, none⟩ u) ge go kind style flag text anchor tag at_ code os' ofl' ot' oa' og' oat' oc' := by
 obtain ⟨h1, h2, h3, h4, h5, h6⟩ := h
 have hs := blk_set h6 j u
 rw [hu] at hs
 exact ⟨h1, h2, h3, h4.setCell h3 _, blk_far h5 h1 u, hs⟩
theorem EvAt.cells {w W : World} {ge go : Nat} {kind style : Int} {flag : Bool} {text anchor tag : ByteArray} {at_ code os : Int} {ofl : Bool} {ot oa og : ByteArray} {oat oc : Int} (h : EvAt w W ge go kind style flag text anchor tag at_ code os ofl ot oa og oat oc) :
  (ge ≠ go ∧ go ≠ ge) ∧ (W.cell? ⟨ge, 0, none⟩ = some (.int .i64 kind) ∧ W.cell? ⟨ge, 1, none⟩ = some (.int .i64 style) ∧ W.cell? ⟨ge, 2, none⟩ = some (.bool flag) ∧ W.cell? ⟨ge, 3, none⟩ = some (.string text) ∧ W.cell? ⟨ge, 4, none⟩ = some (.string anchor) ∧ W.cell? ⟨ge, 5, none⟩ = some (.string tag) ∧ W.cell? ⟨ge, 6, none⟩ = some (.int .i64 at_) ∧ W.cell? ⟨ge, 7, none⟩ = some (.int .i64 code)) ∧
  (W.cell? ⟨go, 0, none⟩ = some (.int .i64 kind) ∧ W.cell? ⟨go, 1, none⟩ = some (.int .i64 os) ∧ W.cell? ⟨go, 2, none⟩ = some (.bool ofl) ∧ W.cell? ⟨go, 3, none⟩ = some (.string ot) ∧ W.cell? ⟨go, 4, none⟩ = some (.string oa) ∧ W.cell? ⟨go, 5, none⟩ = some (.string og) ∧ W.cell? ⟨go, 6, none⟩ = some (.int .i64 oat) ∧ W.cell? ⟨go, 7, none⟩ = some (.int .i64 oc)) ∧ (∀ j, W.frozen? ⟨go, j, none⟩ = false) := by
 obtain ⟨h1, h2, h3, h4, h5, h6⟩ := h
 exact ⟨⟨h1, h1.symm⟩, ⟨(blk_cell h5 0).trans rfl, (blk_cell h5 1).trans rfl, (blk_cell h5 2).trans rfl, (blk_cell h5 3).trans rfl, (blk_cell h5 4).trans rfl, (blk_cell h5 5).trans rfl, (blk_cell h5 6).trans rfl, (blk_cell h5 7).trans rfl⟩, ⟨(blk_cell h6 0).trans rfl, (blk_cell h6 1).trans rfl, (blk_cell h6 2).trans rfl, (blk_cell h6 3).trans rfl, (blk_cell h6 4).trans rfl, (blk_cell h6 5).trans rfl, (blk_cell h6 6).trans rfl, (blk_cell h6 7).trans rfl⟩, blk_frozen h6⟩
theorem EvAt.bel {w W : World} {ge go : Nat} {kind style : Int} {flag : Bool} {text anchor tag : ByteArray} {at_ code os : Int} {ofl : Bool} {ot oa og : ByteArray} {oat oc : Int} (h : EvAt w W ge go kind style flag text anchor tag at_ code os ofl ot oa og oat oc) : Below w.heap.size w W := h.2.2.2.1
/-- Below the world's own size: behind a name. -/
def BelowOwn (w w' : World) : Prop := Below w.heap.size w w'
theorem ev_eqA (d : Nat) (w : World) (x0 y0 : Int) (x1 y1 : Int) (x2 y2 : Bool) (x3 y3 : ByteArray) (x4 y4 : ByteArray) (x5 y5 : ByteArray) (x6 y6 : Int) (x7 y7 : Int) :
  (Op.equalIn (d + 2) 29 (.agg #[.int .i64 x0, .int .i64 x1, .bool x2, .string x3, .string x4, .string x5, .int .i64 x6, .int .i64 x7]) (.agg #[.int .i64 y0, .int .i64 y1, .bool y2, .string y3, .string y4, .string y5, .int .i64 y6, .int .i64 y7])).run Try.prog w = .ok (x0 == y0 && (x1 == y1 && (x2 == y2 && (x3.toList == y3.toList && (x4.toList == y4.toList && (x5.toList == y5.toList && (x6 == y6 && (x7 == y7)))))))) w := by
 refine eqA_of Try.underlying29 (by kernel_rfl) ?_
 refine eqf_cons (by rfl) (by go_simp; rfl) (by go_simp; rfl) (by go_simp) ?_
 refine eqf_cons (by rfl) (by go_simp; rfl) (by go_simp; rfl) (by go_simp) ?_
 refine eqf_cons (by rfl) (by go_simp; rfl) (by go_simp; rfl) (by go_simp) ?_
 refine eqf_cons (by rfl) (by go_simp; rfl) (by go_simp; rfl) (by go_simp) ?_
 refine eqf_cons (by rfl) (by go_simp; rfl) (by go_simp; rfl) (by go_simp) ?_
 refine eqf_cons (by rfl) (by go_simp; rfl) (by go_simp; rfl) (by go_simp) ?_
 refine eqf_cons (by rfl) (by go_simp; rfl) (by go_simp; rfl) (by go_simp) ?_
 exact eqf_last (by rfl) (by go_simp; rfl) (by go_simp; rfl) (by go_simp)
theorem ev_eq (w : World) (kind style : Int) (flag : Bool) (text anchor tag : ByteArray) (at_ code os : Int) (ofl : Bool) (ot oa og : ByteArray) (oat oc : Int) :
  (Op.equalIn 10000 29 (.agg #[.int .i64 kind, .int .i64 style, .bool flag, .string text, .string anchor, .string tag, .int .i64 at_, .int .i64 code]) (.agg #[.int .i64 kind, .int .i64 os, .bool ofl, .string ot, .string oa, .string og, .int .i64 oat, .int .i64 oc])).run Try.prog w = .ok (impl_EventOk.eqB kind style flag text anchor tag at_ code os ofl ot oa og oat oc) w := ev_eqA 9998 w _ _ _ _ _ _ _ _ _ _ _ _ _ _ _ _
set_option maxHeartbeats 8000000 in
set_option maxRecDepth 100000 in
theorem impl_EventOk.walk (k : Nat) (kind style : Int) (flag : Bool) (text anchor tag : ByteArray) (at_ code : Int) (r : Bool) (w : World) (h : impl_EventOk.f k kind style flag text anchor tag at_ code = some r) :
  Calls Try.prog 13 #[.agg #[.int .i64 kind, .int .i64 style, .bool flag, .string text, .string anchor, .string tag, .int .i64 at_, .int .i64 code]] w fun e w' => e = .returned (.bool r) ∧ BelowOwn w w' := by
 have H := h
 clear h
 unfold impl_EventOk.f at H
 obtain ⟨ok, hp, H⟩ := Option.bind_eq_some_iff.mp H
 have HP := Aside0.mk hp
 have HF := Aside0.mk (show ok = false → r = false from fun h => by rw [h, if_neg (by decide)] at H; exact (Option.some.inj H).symm)
 have HH := Aside0.mk H
 clear hp H
 have hu := Try.underlying29
 have HE := Aside0.mk (show EvAt w ((w.alloc (.cells #[.int .i64 kind, .int .i64 style, .bool flag, .string text, .string anchor, .string tag, .int .i64 at_, .int .i64 code] 29)).alloc (.cells #[.int .i64 kind, .int .i64 0, .bool false, .string ⟨#[]⟩, .string ⟨#[]⟩, .string ⟨#[]⟩, .int .i64 0, .int .i64 0] 29)) w.heap.size (w.heap.size + 1) kind style flag text anchor tag at_ code 0 false ⟨#[]⟩ ⟨#[]⟩ ⟨#[]⟩ 0 0 from
  ⟨by omega, Nat.le_refl _, by omega, below_alloc (below_alloc (Below.refl _ _) _) _, (by
   have h1 := heap_alloc_new w (.cells #[.int .i64 kind, .int .i64 style, .bool flag, .string text, .string anchor, .string tag, .int .i64 at_, .int .i64 code] 29)
   exact ((below_alloc (Below.refl _ _) _ : Below (w.alloc (.cells #[.int .i64 kind, .int .i64 style, .bool flag, .string text, .string anchor, .string tag, .int .i64 at_, .int .i64 code] 29)).heap.size _ _).block w.heap.size (blk_lt h1)).trans h1), (by
   have h2 := heap_alloc_new (w.alloc (.cells #[.int .i64 kind, .int .i64 style, .bool flag, .string text, .string anchor, .string tag, .int .i64 at_, .int .i64 code] 29)) (.cells #[.int .i64 kind, .int .i64 0, .bool false, .string ⟨#[]⟩, .string ⟨#[]⟩, .string ⟨#[]⟩, .int .i64 0, .int .i64 0] 29)
   rw [World.size_alloc] at h2
   exact h2)⟩)
 go_enter Try.func13, Try.ntmps13
 go_upto_block 0 with fail
 generalize ((w.alloc (.cells #[.int .i64 kind, .int .i64 style, .bool flag, .string text, .string anchor, .string tag, .int .i64 at_, .int .i64 code] 29)).alloc (.cells #[.int .i64 kind, .int .i64 0, .bool false, .string ⟨#[]⟩, .string ⟨#[]⟩, .string ⟨#[]⟩, .int .i64 0, .int .i64 0] 29)) = W0 at HE ⊢
 generalize w.heap.size + 1 = go at HE ⊢
 generalize w.heap.size = ge at HE ⊢
 go_cut [] (fun wc => Aside0 (EvAt w wc ge go kind style flag text anchor tag at_ code (impl_EventOk.os kind style) (impl_EventOk.ofl kind flag) (impl_EventOk.ot kind text) (impl_EventOk.oa kind anchor) (impl_EventOk.oa kind tag) (impl_EventOk.oc kind at_) (impl_EventOk.oc kind code)) ∧ Aside0 (ok = true))
 case first =>
  obtain ⟨⟨hn1, hn2⟩, ⟨e0, e1, e2, e3, e4, e5, e6, e7⟩, ⟨o0, o1, o2, o3, o4, o5, o6, o7⟩, of⟩ := HE.out.cells
  by_cases c : kind = 1 ∨ kind = 7 ∨ kind = 9
  ·have hok := HP.out
   rw [impl_EventOk.pre, if_pos (by omega)] at hok
   obtain rfl := (Option.some.inj hok).symm
   clear hok HH HF o0 o1 o2 o3 o4 o5 o6 o7 of
   rcases c with rfl | rfl | rfl
   ·go_wp2
    go_meet
    case rel => exact ⟨HE, ⟨by first | rfl | trivial⟩⟩
   ·go_wp2
    go_meet
    case rel => exact ⟨HE, ⟨by first | rfl | trivial⟩⟩
   ·go_wp2
    go_meet
    case rel => exact ⟨HE, ⟨by first | rfl | trivial⟩⟩
  ·by_cases c2 : kind = 2 ∨ kind = 8
   ·have hok := HP.out
    rw [impl_EventOk.pre, if_pos (by omega)] at hok
    obtain rfl := (Option.some.inj hok).symm
    have f2 := of 2
    clear hok HH HF o0 o1 o3 o4 o5 o6 o7 of
    rcases c2 with rfl | rfl
    ·go_wp2
     go_meet
     case rel => exact ⟨⟨HE.out.set 2 (.bool flag) (os' := 0) (ofl' := flag) (ot' := ⟨#[]⟩) (oa' := ⟨#[]⟩) (og' := ⟨#[]⟩) (oat' := 0) (oc' := 0) (by simp)⟩, ⟨by first | rfl | trivial⟩⟩
    ·go_wp2
     go_meet
     case rel => exact ⟨⟨HE.out.set 2 (.bool flag) (os' := 0) (ofl' := flag) (ot' := ⟨#[]⟩) (oa' := ⟨#[]⟩) (og' := ⟨#[]⟩) (oat' := 0) (oc' := 0) (by simp)⟩, ⟨by first | rfl | trivial⟩⟩
   ·by_cases c3 : kind = 3 ∨ kind = 4
    ·have hok := HP.out
     rw [impl_EventOk.pre, if_neg (by omega), if_pos c3] at hok
     have HP := Aside0.mk hok
     clear hok HH
     rcases c3 with rfl | rfl
     ·have f1 := of 1
      have f4 := of 4
      have f5 := of 5
      go_upto_region 12 with fail
      go_cut [] (fun wd => Aside0 (EvAt w wd ge go 3 style flag text anchor tag at_ code style false ⟨#[]⟩ anchor tag 0 0))
      case first =>
       skip
       go_region
       all_goals (go_wp2; go_meet; case rel => exact ⟨(((HE.out.set 1 (.int .i64 style) (os' := style) (ofl' := false) (ot' := ⟨#[]⟩) (oa' := ⟨#[]⟩) (og' := ⟨#[]⟩) (oat' := 0) (oc' := 0) (by simp)).set 4 (.string anchor) (os' := style) (ofl' := false) (ot' := ⟨#[]⟩) (oa' := anchor) (og' := ⟨#[]⟩) (oat' := 0) (oc' := 0) (by simp)).set 5 (.string tag) (os' := style) (ofl' := false) (ot' := ⟨#[]⟩) (oa' := anchor) (og' := tag) (oat' := 0) (oc' := 0) (by simp)).below (below_drew (Below.refl _ _))⟩)
      case rest =>
       clear HE e0 e1 e2 e3 e4 e5 e6 e7 o0 o1 o2 o3 o4 o5 o6 o7 of
       have HE := hcut
       clear hcut
       obtain ⟨⟨hn1, hn2⟩, ⟨e0, e1, e2, e3, e4, e5, e6, e7⟩, ⟨o0, o1, o2, o3, o4, o5, o6, o7⟩, of⟩ := HE.out.cells
       clear o0 o1 o2 o3 o4 o5 o6 o7 of
       cases ok
       ·have hr := HF.out rfl
        subst hr
        go_wp2_with (go_at_call 37; refine (impl_within.calls style 6 7 false _ HP.out).mono ?_; rintro e w' ⟨rfl, hb⟩; have HE' := Aside0.mk (HE.out.below hb.below); clear hb)
        go_ret
        exact ⟨rfl, HE'.out.bel⟩
       ·go_wp2_with (go_at_call 37; refine (impl_within.calls style 6 7 true _ HP.out).mono ?_; rintro e w' ⟨rfl, hb⟩; have HE' := Aside0.mk (HE.out.below hb.below); clear hb)
        go_meet
        case rel => exact ⟨HE', ⟨by first | rfl | trivial⟩⟩
     ·have f1 := of 1
      have f4 := of 4
      have f5 := of 5
      go_upto_region 12 with fail
      go_cut [] (fun wd => Aside0 (EvAt w wd ge go 4 style flag text anchor tag at_ code style false ⟨#[]⟩ anchor tag 0 0))
      case first =>
       skip
       go_region
       all_goals (go_wp2; go_meet; case rel => exact ⟨(((HE.out.set 1 (.int .i64 style) (os' := style) (ofl' := false) (ot' := ⟨#[]⟩) (oa' := ⟨#[]⟩) (og' := ⟨#[]⟩) (oat' := 0) (oc' := 0) (by simp)).set 4 (.string anchor) (os' := style) (ofl' := false) (ot' := ⟨#[]⟩) (oa' := anchor) (og' := ⟨#[]⟩) (oat' := 0) (oc' := 0) (by simp)).set 5 (.string tag) (os' := style) (ofl' := false) (ot' := ⟨#[]⟩) (oa' := anchor) (og' := tag) (oat' := 0) (oc' := 0) (by simp)).below (below_drew (Below.refl _ _))⟩)
      case rest =>
       clear HE e0 e1 e2 e3 e4 e5 e6 e7 o0 o1 o2 o3 o4 o5 o6 o7 of
       have HE := hcut
       clear hcut
       obtain ⟨⟨hn1, hn2⟩, ⟨e0, e1, e2, e3, e4, e5, e6, e7⟩, ⟨o0, o1, o2, o3, o4, o5, o6, o7⟩, of⟩ := HE.out.cells
       clear o0 o1 o2 o3 o4 o5 o6 o7 of
       cases ok
       ·have hr := HF.out rfl
        subst hr
        go_wp2_with (go_at_call 37; refine (impl_within.calls style 6 7 false _ HP.out).mono ?_; rintro e w' ⟨rfl, hb⟩; have HE' := Aside0.mk (HE.out.below hb.below); clear hb)
        go_ret
        exact ⟨rfl, HE'.out.bel⟩
       ·go_wp2_with (go_at_call 37; refine (impl_within.calls style 6 7 true _ HP.out).mono ?_; rintro e w' ⟨rfl, hb⟩; have HE' := Aside0.mk (HE.out.below hb.below); clear hb)
        go_meet
        case rel => exact ⟨HE', ⟨by first | rfl | trivial⟩⟩
    ·by_cases c5 : kind = 5
     ·have hok := HP.out
      rw [impl_EventOk.pre, if_neg (by omega), if_neg c3, if_pos c5] at hok
      have HP := Aside0.mk hok
      subst c5
      have f1 := of 1
      have f3 := of 3
      have f4 := of 4
      have f5 := of 5
      clear hok HH
      go_upto_region 16 with fail
      go_cut [] (fun wd => Aside0 (EvAt w wd ge go 5 style flag text anchor tag at_ code style false text anchor tag 0 0))
      case first =>
       skip
       go_region
       all_goals (go_wp2; go_meet; case rel => exact ⟨((((HE.out.set 1 (.int .i64 style) (os' := style) (ofl' := false) (ot' := ⟨#[]⟩) (oa' := ⟨#[]⟩) (og' := ⟨#[]⟩) (oat' := 0) (oc' := 0) (by simp)).set 3 (.string text) (os' := style) (ofl' := false) (ot' := text) (oa' := ⟨#[]⟩) (og' := ⟨#[]⟩) (oat' := 0) (oc' := 0) (by simp)).set 4 (.string anchor) (os' := style) (ofl' := false) (ot' := text) (oa' := anchor) (og' := ⟨#[]⟩) (oat' := 0) (oc' := 0) (by simp)).set 5 (.string tag) (os' := style) (ofl' := false) (ot' := text) (oa' := anchor) (og' := tag) (oat' := 0) (oc' := 0) (by simp)).below (below_drew (Below.refl _ _))⟩)
      case rest =>
       clear HE e0 e1 e2 e3 e4 e5 e6 e7 o0 o1 o2 o3 o4 o5 o6 o7 of
       have HE := hcut
       clear hcut
       obtain ⟨⟨hn1, hn2⟩, ⟨e0, e1, e2, e3, e4, e5, e6, e7⟩, ⟨o0, o1, o2, o3, o4, o5, o6, o7⟩, of⟩ := HE.out.cells
       clear o0 o1 o2 o3 o4 o5 o6 o7 of
       cases ok
       ·have hr := HF.out rfl
        subst hr
        go_wp2_with (go_at_call 37; refine (impl_within.calls style 1 5 false _ HP.out).mono ?_; rintro e w' ⟨rfl, hb⟩; have HE' := Aside0.mk (HE.out.below hb.below); clear hb)
        go_ret
        exact ⟨rfl, HE'.out.bel⟩
       ·go_wp2_with (go_at_call 37; refine (impl_within.calls style 1 5 true _ HP.out).mono ?_; rintro e w' ⟨rfl, hb⟩; have HE' := Aside0.mk (HE.out.below hb.below); clear hb)
        go_meet
        case rel => exact ⟨HE', ⟨by first | rfl | trivial⟩⟩
     ·by_cases c6 : kind = 6
      ·have hok := HP.out
       rw [impl_EventOk.pre, if_neg (by omega), if_neg c3, if_neg c5, if_pos c6] at hok
       subst c6
       have f3 := of 3
       have HS := Aside0.mk (HE.out.set 3 (.string text) (os' := 0) (ofl' := false) (ot' := text) (oa' := ⟨#[]⟩) (og' := ⟨#[]⟩) (oat' := 0) (oc' := 0) (by simp))
       clear HH of
       by_cases te : text.toList.isEmpty = true
       ·rw [if_pos te] at hok
        obtain rfl := (Option.some.inj hok).symm
        have hr := HF.out rfl
        subst hr
        clear hok
        go_wp2
        go_ret
        exact ⟨rfl, HS.out.bel⟩
       ·rw [if_neg te] at hok
        have te1 : text.toList.isEmpty = false := by simpa using te
        have HP := Aside0.mk hok
        clear hok te
        cases ok
        ·have hr := HF.out rfl
         subst hr
         go_wp2_with (go_at_call 38; refine (impl_isName.calls k text false _ HP.out).mono ?_; rintro e w' ⟨rfl, hb⟩; have HE' := Aside0.mk (HS.out.below hb.below); clear hb)
         go_ret
         exact ⟨rfl, HE'.out.bel⟩
        ·go_wp2_with (go_at_call 38; refine (impl_isName.calls k text true _ HP.out).mono ?_; rintro e w' ⟨rfl, hb⟩; have HE' := Aside0.mk (HS.out.below hb.below); clear hb)
         go_meet
         case rel => exact ⟨HE', ⟨by first | rfl | trivial⟩⟩
      ·by_cases c10 : kind = 10
       ·have hok := HP.out
        rw [impl_EventOk.pre, if_neg (by omega), if_neg c3, if_neg c5, if_neg c6, if_pos c10] at hok
        obtain ⟨b, hb, hok⟩ := Option.bind_eq_some_iff.mp hok
        have HPW := Aside0.mk hb
        have HO := Aside0.mk hok
        subst c10
        have f6 := of 6
        have f7 := of 7
        clear hok hb HH
        go_upto_region 24 with fail
        go_cut [] (fun wd => Aside0 (EvAt w wd ge go 10 style flag text anchor tag at_ code 0 false ⟨#[]⟩ ⟨#[]⟩ ⟨#[]⟩ at_ code))
        case first =>
         go_region
         all_goals (go_wp2; go_meet; case rel => exact ⟨((HE.out.set 7 (.int .i64 code) (os' := 0) (ofl' := false) (ot' := ⟨#[]⟩) (oa' := ⟨#[]⟩) (og' := ⟨#[]⟩) (oat' := 0) (oc' := code) (by simp)).set 6 (.int .i64 at_) (os' := 0) (ofl' := false) (ot' := ⟨#[]⟩) (oa' := ⟨#[]⟩) (og' := ⟨#[]⟩) (oat' := at_) (oc' := code) (by simp)).below (below_drew (Below.refl _ _))⟩)
        case rest =>
         clear HE e0 e1 e2 e3 e4 e5 e6 e7 o0 o1 o2 o3 o4 o5 o6 o7 of f6 f7
         have HE := hcut
         clear hcut
         obtain ⟨⟨hn1, hn2⟩, ⟨e0, e1, e2, e3, e4, e5, e6, e7⟩, ⟨o0, o1, o2, o3, o4, o5, o6, o7⟩, of⟩ := HE.out.cells
         clear o0 o1 o2 o3 o4 o5 o6 o7 of
         cases b
         ·have hok := HO.out
          rw [if_neg (by decide)] at hok
          obtain rfl := (Option.some.inj hok).symm
          have hr := HF.out rfl
          subst hr
          clear hok
          go_wp2_with (go_at_call 37; refine (impl_within.calls code 1 99 false _ HPW.out).mono ?_; rintro e w' ⟨rfl, hb⟩; have HE' := Aside0.mk (HE.out.below hb.below); clear hb)
          go_ret
          exact ⟨rfl, HE'.out.bel⟩
         ·have hok := HO.out
          rw [if_pos rfl] at hok
          by_cases ha : at_ < 0
          ·have ha1 : decide (at_ < 0) = true := decide_eq_true ha
           rw [ha1] at hok
           obtain rfl := (Option.some.inj hok).symm
           have hr := HF.out rfl
           subst hr
           clear hok ha
           go_wp2_with (go_at_call 37; refine (impl_within.calls code 1 99 true _ HPW.out).mono ?_; rintro e w' ⟨rfl, hb⟩; have HE' := Aside0.mk (HE.out.below hb.below); clear hb; obtain ⟨_, ⟨_, _, _, _, _, _, m6, _⟩, _⟩ := HE'.out.cells)
           go_ret
           exact ⟨rfl, HE'.out.bel⟩
          ·have ha1 : decide (at_ < 0) = false := decide_eq_false ha
           rw [ha1] at hok
           obtain rfl := (Option.some.inj hok).symm
           clear hok ha
           go_wp2_with (go_at_call 37; refine (impl_within.calls code 1 99 true _ HPW.out).mono ?_; rintro e w' ⟨rfl, hb⟩; have HE' := Aside0.mk (HE.out.below hb.below); clear hb; obtain ⟨_, ⟨_, _, _, _, _, _, m6, _⟩, _⟩ := HE'.out.cells)
           go_meet
           case rel => exact ⟨HE', ⟨by first | rfl | trivial⟩⟩
       ·have hok := HP.out
        rw [impl_EventOk.pre, if_neg (by omega), if_neg c3, if_neg c5, if_neg c6, if_neg c10] at hok
        obtain rfl := (Option.some.inj hok).symm
        have hr := HF.out rfl
        subst hr
        have d1 : (kind == 1) = false := by simpa using (show ¬ kind = 1 by omega)
        have d2 : (kind == 2) = false := by simpa using (show ¬ kind = 2 by omega)
        have d3 : (kind == 3) = false := by simpa using (show ¬ kind = 3 by omega)
        have d4 : (kind == 4) = false := by simpa using (show ¬ kind = 4 by omega)
        have d5 : (kind == 5) = false := by simpa using (show ¬ kind = 5 by omega)
        have d6 : (kind == 6) = false := by simpa using (show ¬ kind = 6 by omega)
        have d7 : (kind == 7) = false := by simpa using (show ¬ kind = 7 by omega)
        have d8 : (kind == 8) = false := by simpa using (show ¬ kind = 8 by omega)
        have d9 : (kind == 9) = false := by simpa using (show ¬ kind = 9 by omega)
        have d10 : (kind == 10) = false := by simpa using (show ¬ kind = 10 by omega)
        clear hok HH c c2 c3 c5 c6 c10
        go_wp2
        go_ret
        exact ⟨rfl, HE.out.bel⟩
 case rest =>
  clear HE HP HF
  obtain ⟨HE, hok⟩ := hcut
  have hok := hok.out
  subst hok
  have H := HH.out
  clear HH
  rw [if_pos rfl] at H
  unfold impl_EventOk.eqE at H
  generalize impl_EventOk.os kind style = os at HE H
  generalize impl_EventOk.ofl kind flag = ofl at HE H
  generalize impl_EventOk.ot kind text = ot at HE H
  generalize impl_EventOk.oa kind anchor = oa at HE H
  generalize impl_EventOk.oa kind tag = og at HE H
  generalize impl_EventOk.oc kind at_ = oat at HE H
  generalize impl_EventOk.oc kind code = oc at HE H
  have heq := fun wx : World => ev_eq wx kind style flag text anchor tag at_ code os ofl ot oa og oat oc
  generalize impl_EventOk.eqB kind style flag text anchor tag at_ code os ofl ot oa og oat oc = B at H heq
  obtain ⟨⟨hn1, hn2⟩, ⟨e0, e1, e2, e3, e4, e5, e6, e7⟩, ⟨o0, o1, o2, o3, o4, o5, o6, o7⟩, of⟩ := HE.out.cells
  clear hn1 hn2 of
  cases B
  ·rw [if_neg (by decide)] at H
   obtain rfl := Option.some.inj H
   go_wp2
   go_ret
   exact ⟨rfl, HE.out.bel⟩
  ·rw [if_pos rfl] at H
   obtain ⟨n, hn, H⟩ := Option.bind_eq_some_iff.mp H
   have HN := Aside0.mk hn
   clear hn
   cases n
   ·rw [if_neg (by decide)] at H
    obtain rfl := Option.some.inj H
    go_wp2_with (go_at_call 38; refine (impl_isName.calls k anchor false _ HN.out).mono ?_; rintro e w' ⟨rfl, hb⟩; have HE' := Aside0.mk (HE.out.below hb.below); clear hb)
    go_ret
    exact ⟨rfl, HE'.out.bel⟩
   ·rw [if_pos rfl] at H
    obtain rfl := Option.some.inj H
    go_wp2_with (go_at_call 38; refine (impl_isName.calls k anchor true _ HN.out).mono ?_; rintro e w' ⟨rfl, hb⟩; have HE' := Aside0.mk (HE.out.below hb.below); clear hb; obtain ⟨_, ⟨_, _, _, _, _, m5, _, _⟩, _⟩ := HE'.out.cells)
    go_ret
    exact ⟨by first | rfl | simp, HE'.out.bel⟩
theorem impl_EventOk.calls (k : Nat) (kind style : Int) (flag : Bool) (text anchor tag : ByteArray) (at_ code : Int) (r : Bool) (w : World) (h : impl_EventOk.f k kind style flag text anchor tag at_ code = some r) :
  Calls Try.prog 13 #[.agg #[.int .i64 kind, .int .i64 style, .bool flag, .string text, .string anchor, .string tag, .int .i64 at_, .int .i64 code]] w fun e w' => e = .returned (.bool r) ∧ Below w.heap.size w w' :=
 impl_EventOk.walk k kind style flag text anchor tag at_ code r w h

end Go.Proofs.Ytacmlggiklkbiaa.PFnExactEventsText
