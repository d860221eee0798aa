-- Written by a program of this session, out of the translation.
import Derived.Test.YtbjkaapkmemojaaPFnSourcex0
import Derived.Test.YtbjkaapkmemojaaPFnSourcex1
import Derived.Test.YtbjkaapkmemojaaPFnSourcex2
import Derived.Test.YtbjkaapkmemojaaPFnSourcex3
import Derived.Test.YtbjkaapkmemojaaPFnSourcex5
namespace Go.Proofs.Ytbjkaapkmemojaa.PFnSource
open Go.RowKit Go.Proofs.YtbjkaapkmemojaaW.PrintWords Go.Proofs.YtbjkaapkmemojaaW.PrintLast Go.Proofs.YtbjkaapkmemojaaW.PrintMore
attribute [local go_sem] max2_int min2_int max_two min_two max_three min_three max_four min_four   -- for this text's walks alone
set_option linter.unusedVariables false
set_option linter.unusedSimpArgs false

/-! ### impl_SourceRun: function 15 -/
def rnM (a : Int) (b : List Int) : Nat → List S58 → Int → Int → List Int → List S58 × Int × List Int
  | 0, l, f, _, acc => (l, f, acc)
  | n + 1, l, f, at_, acc => if bzX a (bzL a l b at_) at_ < 0 then (bzL a l b at_, bzF a l f at_, acc) else rnM a b n (bzL a l b at_) (bzF a l f at_) (at_ + 1) (acc ++ [bzX a (bzL a l b at_) at_ % 256])
theorem bzL_len6 (a : Int) (l : List S58) (b : List Int) (at_ : Int) (h : l.length ≤ 6) : (bzL a l b at_).length ≤ 6 := by
  unfold bzL
  split
  · rename_i hk
    have hr := pgAt_range (at_ / a) l 0 (Int.le_refl 0)
    rw [List.length_append, List.length_singleton, List.length_eraseIdx_of_lt (by omega)]
    omega
  · split
    · rename_i h6
      rw [List.length_append, List.length_singleton] at h6
      rw [List.length_eraseIdx_of_lt (by rw [List.length_append, List.length_singleton]; omega), List.length_append, List.length_singleton]
      omega
    · omega
theorem bzF_range (a : Int) (l : List S58) (f at_ : Int) (h : 0 ≤ f ∧ f ≤ 4294967295) : 0 ≤ bzF a l f at_ ∧ bzF a l f at_ ≤ 4294967295 := by
  unfold bzF
  split <;> omega
def ruOk (a : Int) (l : List S58) (f from_ tp : Int) : Bool := srcM a l f && decide (0 ≤ from_) && decide (tp ≤ 60000)
def ruR (a : Int) (l : List S58) (f : Int) (b : List Int) (from_ tp : Int) : List S58 × Int × List Int := rnM a b (tp - from_).toNat l f from_ []
set_option maxHeartbeats 4000000 in
set_option maxRecDepth 100000 in
theorem SourceRun_no (a f : Int) (A : Option Addr) (c : Nat) (l : List S58) (B : Option Addr) (nb cb : Nat) (from_ tp : Int) (w : World) (hr : Kd.C k58 w A l.length l) (hc : l.length ≤ c) (hl : l.length ≤ 1048576) (ho : ruOk a l f from_ tp = false) :
    Calls Try.prog 15 #[.agg #[.int .i64 a, .slice A l.length c, .int .i64 f], .slice B nb cb, .int .i64 from_, .int .i64 tp] w fun e w' => e = .returned (.tuple #[.agg #[.int .i64 0, .slice none 0 0, .int .i64 0], .slice none 0 0]) ∧ Below w.heap.size w w' := by
  have hu := Try.underlying24
  have q1 := impl_SourceOk_ok a l hl f (l.length + 1) (Nat.le_refl _)
  have HC := Aside0.mk hc
  have HB := Aside0.mk (below_alloc (below_alloc (Below.refl w.heap.size w) (.cells #[.int .i64 a, .slice A l.length c, .int .i64 f] 24)) zSrc)
  have HR := Aside0.mk (Kd.C_below hr HB.out)
  have HZ := Aside0.mk (heap_alloc_new (w.alloc (.cells #[.int .i64 a, .slice A l.length c, .int .i64 f] 24)) zSrc)
  have HG := Aside0.mk (show w.heap.size ≤ (w.alloc (.cells #[.int .i64 a, .slice A l.length c, .int .i64 f] 24)).heap.size from by rw [World.size_alloc]; omega)
  have hs := World.size_alloc w (.cells #[.int .i64 a, .slice A l.length c, .int .i64 f] 24)
  have e0 : ((w.alloc (.cells #[.int .i64 a, .slice A l.length c, .int .i64 f] 24)).alloc zSrc).heap[w.heap.size]? = some (.cells #[.int .i64 a, .slice A l.length c, .int .i64 f] 24 (0, 0)) := blk_alloc (heap_alloc_new w _) _
  clear hr hc hl
  unfold ruOk at ho
  go_enter Try.func15, Try.ntmps15
  go_upto_region 1 with fail
  rw [hs] at HZ HG
  change Code.wp _ _ _ _ ((w.alloc (.cells #[.int .i64 a, .slice A l.length c, .int .i64 f] 24)).alloc zSrc)
  generalize (w.alloc (.cells #[.int .i64 a, .slice A l.length c, .int .i64 f] 24)).alloc zSrc = W0 at HB HR HZ e0 ⊢
  have c0 := (blk_cell e0 0).trans rfl
  have c1 := (blk_cell e0 1).trans rfl
  have c2 := (blk_cell e0 2).trans rfl
  generalize w.heap.size + 1 = g2 at HZ HG ⊢
  clear e0 hs
  by_cases hs : srcM a l f = true
  · rw [hs] at q1 ho
    rw [Bool.true_and] at ho
    by_cases h1 : from_ < 0
    · have b1 : decide (from_ < 0) = true := decide_eq_true h1
      go_wp2_with (go_at_call 16; (with_reducible refine (impl_SourceOk.calls (l.length + 1) a A c l f true _ HR.out HC.out q1).mono ?_); rintro e w' ⟨rfl, hb⟩; have HZ1 := Aside0.mk ((hb.block _ (blk_lt HZ.out)).trans HZ.out); have z0 := (blk_cell HZ1.out 0).trans rfl; have z1 := (blk_cell HZ1.out 1).trans rfl; have z2 := (blk_cell HZ1.out 2).trans rfl; have f0 := blk_frozen HZ1.out 0; have f1 := blk_frozen HZ1.out 1; have f2 := blk_frozen HZ1.out 2; have HB1 := Aside0.mk (below_step HB.out hb); clear hb)
      refine bodyPost_ret (results_ct rfl _ _ g2 24 #[.int .i64 0, .slice none 0 0, .int .i64 0] (0, 0) _ rfl (by refine blk_put (cs := #[.int .i64 0, .slice none 0 0, .int .i64 0]) ?_ 2 _ rfl; refine blk_put (cs := #[.int .i64 0, .slice none 0 0, .int .i64 0]) ?_ 1 _ rfl; refine blk_put (cs := #[.int .i64 0, .slice none 0 0, .int .i64 0]) ?_ 0 _ rfl; exact HZ1.out) Try.underlying24 rfl (by kernel_rfl)) rfl ?_
      exact ⟨rfl, below_set (below_set (below_set HB1.out HG.out) HG.out) HG.out⟩
    · have b1 : decide (from_ < 0) = false := decide_eq_false h1
      have b2 : decide (60000 < tp) = true := by
        rw [decide_eq_true (by omega), Bool.true_and, decide_eq_false_iff_not] at ho
        exact decide_eq_true (by omega)
      go_wp2_with (go_at_call 16; (with_reducible refine (impl_SourceOk.calls (l.length + 1) a A c l f true _ HR.out HC.out q1).mono ?_); rintro e w' ⟨rfl, hb⟩; have HZ1 := Aside0.mk ((hb.block _ (blk_lt HZ.out)).trans HZ.out); have z0 := (blk_cell HZ1.out 0).trans rfl; have z1 := (blk_cell HZ1.out 1).trans rfl; have z2 := (blk_cell HZ1.out 2).trans rfl; have f0 := blk_frozen HZ1.out 0; have f1 := blk_frozen HZ1.out 1; have f2 := blk_frozen HZ1.out 2; have HB1 := Aside0.mk (below_step HB.out hb); clear hb)
      refine bodyPost_ret (results_ct rfl _ _ g2 24 #[.int .i64 0, .slice none 0 0, .int .i64 0] (0, 0) _ rfl (by refine blk_put (cs := #[.int .i64 0, .slice none 0 0, .int .i64 0]) ?_ 2 _ rfl; refine blk_put (cs := #[.int .i64 0, .slice none 0 0, .int .i64 0]) ?_ 1 _ rfl; refine blk_put (cs := #[.int .i64 0, .slice none 0 0, .int .i64 0]) ?_ 0 _ rfl; exact HZ1.out) Try.underlying24 rfl (by kernel_rfl)) rfl ?_
      exact ⟨rfl, below_set (below_set (below_set HB1.out HG.out) HG.out) HG.out⟩
  · have hs' : srcM a l f = false := by simpa using hs
    rw [hs'] at q1
    go_wp2_with (go_at_call 16; (with_reducible refine (impl_SourceOk.calls (l.length + 1) a A c l f false _ HR.out HC.out q1).mono ?_); rintro e w' ⟨rfl, hb⟩; have HZ1 := Aside0.mk ((hb.block _ (blk_lt HZ.out)).trans HZ.out); have z0 := (blk_cell HZ1.out 0).trans rfl; have z1 := (blk_cell HZ1.out 1).trans rfl; have z2 := (blk_cell HZ1.out 2).trans rfl; have f0 := blk_frozen HZ1.out 0; have f1 := blk_frozen HZ1.out 1; have f2 := blk_frozen HZ1.out 2; have HB1 := Aside0.mk (below_step HB.out hb); clear hb)
    refine bodyPost_ret (results_ct rfl _ _ g2 24 #[.int .i64 0, .slice none 0 0, .int .i64 0] (0, 0) _ rfl (by refine blk_put (cs := #[.int .i64 0, .slice none 0 0, .int .i64 0]) ?_ 2 _ rfl; refine blk_put (cs := #[.int .i64 0, .slice none 0 0, .int .i64 0]) ?_ 1 _ rfl; refine blk_put (cs := #[.int .i64 0, .slice none 0 0, .int .i64 0]) ?_ 0 _ rfl; exact HZ1.out) Try.underlying24 rfl (by kernel_rfl)) rfl ?_
    exact ⟨rfl, below_set (below_set (below_set HB1.out HG.out) HG.out) HG.out⟩
set_option maxHeartbeats 4000000 in
set_option maxRecDepth 100000 in
theorem SourceRun_yes (a f : Int) (A : Option Addr) (c : Nat) (l : List S58) (B : Option Addr) (cb : Nat) (b : List Int) (from_ tp : Int) (w : World) (hr : Kd.C k58 w A l.length l) (hc : l.length ≤ c) (hd : ∀ x ∈ l, x.f1.length ≤ 1048576) (hB : Kd.C (Kd.int .u8) w B b.length b) (hcb : b.length ≤ cb) (hb : b.length ≤ 1048576) (ho : ruOk a l f from_ tp = true) :
    Calls Try.prog 15 #[.agg #[.int .i64 a, .slice A l.length c, .int .i64 f], .slice B b.length cb, .int .i64 from_, .int .i64 tp] w fun e w' => ∃ v u, e = .returned (.tuple #[.agg #[.int .i64 a, v, .int .i64 (ruR a l f b from_ tp).2.1], u]) ∧ Kd.S k58 58 w' w.heap.size (fun k => some k ≠ u.ownBlock) v (ruR a l f b from_ tp).1 ∧ Kd.R (Kd.int .u8) 5 w' w.heap.size (fun _ => True) u (ruR a l f b from_ tp).2.2 ∧ Below w.heap.size w w' := by
  have hu := Try.underlying24
  unfold ruOk at ho
  rw [Bool.and_eq_true, Bool.and_eq_true, decide_eq_true_eq, decide_eq_true_eq] at ho
  obtain ⟨⟨hs, hat⟩, htp⟩ := ho
  have b1 : decide (from_ < 0) = false := decide_eq_false (by omega)
  have b2 : decide (60000 < tp) = false := decide_eq_false (by omega)
  have hsf := srcM_facts hs
  have q1 := impl_SourceOk_ok a l (by omega) f (l.length + 1) (Nat.le_refl _)
  rw [hs] at q1
  have HC := Aside0.mk hc
  have HT := Aside0.mk (And.intro hsf (And.intro hat htp))
  have HD := Aside0.mk (show ∀ x ∈ l, x.f1.length ≤ 1000000000000 from fun x hx => Nat.le_trans (hd x hx) (by decide))
  have HCB := Aside0.mk hcb
  have HBo := Aside0.mk hB
  have HLB := Aside0.mk hb
  have HB := Aside0.mk (below_alloc (below_alloc (Below.refl w.heap.size w) (.cells #[.int .i64 a, .slice A l.length c, .int .i64 f] 24)) zSrc)
  have HR := Aside0.mk (Kd.C_below hr HB.out)
  have HBB := Aside0.mk (Kd.C_below hB HB.out)
  have HZ := Aside0.mk (heap_alloc_new (w.alloc (.cells #[.int .i64 a, .slice A l.length c, .int .i64 f] 24)) zSrc)
  have HG := Aside0.mk (show w.heap.size ≤ (w.alloc (.cells #[.int .i64 a, .slice A l.length c, .int .i64 f] 24)).heap.size from by rw [World.size_alloc]; omega)
  have hs1 := World.size_alloc w (.cells #[.int .i64 a, .slice A l.length c, .int .i64 f] 24)
  have e0 : ((w.alloc (.cells #[.int .i64 a, .slice A l.length c, .int .i64 f] 24)).alloc zSrc).heap[w.heap.size]? = some (.cells #[.int .i64 a, .slice A l.length c, .int .i64 f] 24 (0, 0)) := blk_alloc (heap_alloc_new w _) _
  clear hr hc hd hB hcb hb hs hat hsf htp
  go_enter Try.func15, Try.ntmps15
  go_upto_region 1 with fail
  rw [hs1] at HZ HG
  change Code.wp _ _ _ _ ((w.alloc (.cells #[.int .i64 a, .slice A l.length c, .int .i64 f] 24)).alloc zSrc)
  generalize (w.alloc (.cells #[.int .i64 a, .slice A l.length c, .int .i64 f] 24)).alloc zSrc = W0 at HB HR HBB HZ e0 ⊢
  have HE := Aside0.mk e0
  have c0 := (blk_cell e0 0).trans rfl
  have c1 := (blk_cell e0 1).trans rfl
  have c2 := (blk_cell e0 2).trans rfl
  generalize w.heap.size + 1 = g2 at HZ HG ⊢
  clear e0 hs1
  go_upto_region 3 with (go_at_call 16; (with_reducible refine (impl_SourceOk.calls (l.length + 1) a A c l f true _ HR.out HC.out q1).mono ?_); rintro e w' ⟨rfl, hb⟩; have HW := Aside0.mk hb; clear hb)
  have HW1 := HW
  have HB1 := Aside0.mk (below_step HB.out HW1.out)
  have HR1 := Aside0.mk (Kd.C_below HR.out HW1.out)
  have HBB1 := Aside0.mk (Kd.C_below HBB.out HW1.out)
  have HZ1 := Aside0.mk ((HW1.out.block _ (blk_lt HZ.out)).trans HZ.out)
  have HE1 := Aside0.mk ((HW1.out.block _ (blk_lt HE.out)).trans HE.out)
  clear HB HR HBB HZ HE HW HW1 c0 c1 c2
  generalize w' = W1 at HB1 HR1 HBB1 HZ1 HE1 ⊢
  have c0 := (blk_cell HE1.out 0).trans rfl
  have c1 := (blk_cell HE1.out 1).trans rfl
  have c2 := (blk_cell HE1.out 2).trans rfl
  go_upto_region 4 with (go_at_call 33; (with_reducible refine (copySource_c a f A c l W1 HR1.out (by have := HT.out.1.2.2.1; omega) HD.out).mono ?_); rintro e w2 ⟨v2, rfl, hS2, hb2⟩; obtain ⟨A2, n2, e2⟩ := Kd.S_slice hS2; subst e2; have HS2 := Aside0.mk hS2; have HW2 := Aside0.mk hb2; clear hS2 hb2)
  have HZ2 := Aside0.mk ((HW2.out.block _ (blk_lt HZ1.out)).trans HZ1.out)
  have hg2 : g2 < w2.heap.size := blk_lt HZ2.out
  have HB3 := Aside0.mk (show Below w.heap.size w (w2.alloc (.cells #[.int .i64 a, .slice A2 l.length n2, .int .i64 f] 24)) from below_alloc (below_step HB1.out HW2.out) _)
  have HS3 := Aside0.mk (show SSt w.heap.size (fun k => k ≠ g2) (w2.alloc (.cells #[.int .i64 a, .slice A2 l.length n2, .int .i64 f] 24)) w2.heap.size a l f from ⟨A2, n2, heap_alloc_new w2 _, Kd.S_alloc (Kd.S_mono (Kd.S_types (Kd.S_lower HS2.out HB1.out.size) HZ2.out (by decide)) (fun _ hk => hk.2)) _⟩)
  have HBB3 := Aside0.mk (show Kd.C (Kd.int .u8) (w2.alloc (.cells #[.int .i64 a, .slice A2 l.length n2, .int .i64 f] 24)) B b.length b from Kd.C_alloc (Kd.C_below HBB1.out HW2.out) _)
  have HZ3 := Aside0.mk (show (w2.alloc (.cells #[.int .i64 a, .slice A2 l.length n2, .int .i64 f] 24)).heap[g2]? = some zSrc from blk_alloc HZ2.out _)
  have HN3 := Aside0.mk (show w.heap.size ≤ w2.heap.size ∧ g2 ≠ w2.heap.size ∧ g2 < (w2.alloc (.cells #[.int .i64 a, .slice A2 l.length n2, .int .i64 f] 24)).heap.size from ⟨(below_step HB1.out HW2.out).size, by omega, by rw [World.size_alloc]; omega⟩)
  clear HB1 HR1 HBB1 HZ1 HE1 HS2 HW2 HZ2 hg2 c0 c1 c2
  generalize w2.alloc (.cells #[.int .i64 a, .slice A2 l.length n2, .int .i64 f] 24) = W3 at HB3 HS3 HBB3 HZ3 HN3 ⊢
  generalize w2.heap.size = g8 at HS3 HN3 ⊢
  have hu30 := Try.underlying30
  go_upto_block 0 with (first | ((with_reducible refine gate_dst (N := 28) rfl ?_); refine Kd.R_lit (Kd.int .u8) w.heap.size 5 ?hg (N := 28) ?hd (w0 := w) (xs := ([] : List Int)) (inner := []) (ok := fun _ => True) (okp := fun _ => True) ?hr ?hp (fun _ hk => hk) trivial HB3.out HB3.out.size (by simp) ?_; (case hd => rfl); (case hg => rfl); (case hr => first | (go_simp; done) | (go_simp; rfl)); (case hp => exact (Reps.none _ _)); intro v5 w5 ho5 hb5 hg5 hnew; obtain ⟨A5, c5, e5⟩ := Kd.R_slice ho5; subst e5; have HR5 := Aside0.mk ho5; have HB5 := Aside0.mk hb5; have HG5 := Aside0.mk hg5; have HW5 := Aside0.mk hnew; clear ho5 hb5 hg5 hnew))
  have HWW := Aside0.mk (show Below W3.heap.size W3 w5 from (Below.refl _ _).grown HG5.out (Nat.le_refl _) (fun k hk => by cases hk))
  have HS5 := Aside0.mk (show SSt w.heap.size (fun k => k ≠ g2 ∧ some k ≠ (Value.slice A5 ([] : List Int).length c5).ownBlock) w5 g8 a l f from by
    refine ((HS3.out.bound).below HWW.out).mono (fun k hk => ⟨hk.1, fun he => ?_⟩)
    obtain ⟨bb, h1, h2⟩ := HW5.out
    have h3 : some k = some bb := he.trans h1
    injection h3 with h3
    omega)
  have HZ5 := Aside0.mk ((HWW.out.block _ (blk_lt HZ3.out)).trans HZ3.out)
  have HN5 := Aside0.mk (show w.heap.size ≤ g8 ∧ g2 ≠ g8 from ⟨HN3.out.1, HN3.out.2.1⟩)
  clear HS3 HBB3 HZ3 HWW HB3 HG5 HW5 HN3
  go_wp2
  go_loopg [11, 12, 13] (tp - from_).toNat (fun kq v11 v12 v13 wr => ∃ (at_ : Int) (A5 : Option Addr) (c5 : Nat) (acc : List Int) (l' : List S58) (f' : Int), v11 = .slice A5 acc.length c5 ∧ v12 = .int .i64 at_ ∧ Aside0 (SSt w.heap.size (fun k => k ≠ g2 ∧ some k ≠ (Value.slice A5 acc.length c5).ownBlock) wr g8 a l' f') ∧ Aside0 (Kd.R (Kd.int .u8) 5 wr w.heap.size (fun _ => True) (.slice A5 acc.length c5) acc) ∧ Aside0 (wr.heap[g2]? = some zSrc) ∧ Aside0 (Below w.heap.size w wr) ∧ Aside0 (l'.length ≤ 6 ∧ (0 ≤ f' ∧ f' ≤ 4294967295) ∧ 0 ≤ at_ ∧ (tp - at_).toNat = kq ∧ acc.length + kq ≤ 60000) ∧ Aside0 (rnM a b kq l' f' at_ acc = ruR a l f b from_ tp))
  case atStart => exact ⟨from_, A5, c5, [], l, f, rfl, rfl, HS5, HR5, HZ5, HB5, ⟨⟨HT.out.1.2.2.1, HT.out.1.2.2.2, HT.out.2.1, rfl, by have := HT.out.2; simp; omega⟩⟩, ⟨rfl⟩⟩
  case round =>
    clear HS5 HR5 HZ5 HB5
    obtain ⟨at_, A5, c5, acc, l', f', rfl, rfl, HS, HR, HZ, HB, HQ, HE⟩ := hrel
    cases hgk : gk with
    | zero =>
      have hq := HQ.out.2.2.2.1
      have b3 : decide (at_ < tp) = false := decide_eq_false (by omega)
      have HEx := Aside0.mk (show (l', f', acc) = ruR a l f b from_ tp from by rw [← HE.out, hgk]; rfl)
      have HSx := HS
      have HRx := HR
      have HZx := HZ
      have HBx := HB
      clear HS HR HZ HB
      obtain ⟨A7, c7, hbk, j0, j1, j2, _, hSS⟩ := HSx.out.cells
      have HSx2 := Aside0.mk hSS
      have z0 := (blk_cell HZx.out 0).trans rfl
      have z1 := (blk_cell HZx.out 1).trans rfl
      have z2 := (blk_cell HZx.out 2).trans rfl
      have f0 := blk_frozen HZx.out 0
      have f1 := blk_frozen HZx.out 1
      have f2 := blk_frozen HZx.out 2
      clear hSS hbk
      go_wp2
      refine bodyPost_ret (results_ct rfl _ _ g2 24 #[.int .i64 a, .slice A7 l'.length c7, .int .i64 f'] (0, 0) _ rfl (by refine blk_put (cs := #[.int .i64 a, .slice A7 l'.length c7, .int .i64 0]) ?_ 2 _ rfl; refine blk_put (cs := #[.int .i64 a, .slice none 0 0, .int .i64 0]) ?_ 1 _ rfl; refine blk_put (cs := #[.int .i64 0, .slice none 0 0, .int .i64 0]) ?_ 0 _ rfl; exact HZx.out) Try.underlying24 rfl (by kernel_rfl)) rfl ?_
      refine ⟨.slice A7 l'.length c7, .slice A5 acc.length c5, ?_, ?_, ?_, below_set (below_set (below_set HBx.out HG.out) HG.out) HG.out⟩
      · rw [← HEx.out]; rfl
      · rw [← HEx.out]; exact Kd.S_mono (S_fill HSx2.out HZx.out _ _ _) (fun _ hk => hk.2)
      · rw [← HEx.out]; exact Kd.R_set (Kd.R_set (Kd.R_set HRx.out HZx.out (by decide) 0 _) (blk_set HZx.out 0 _) (by decide) 1 _) (blk_set (blk_set HZx.out 0 _) 1 _) (by decide) 2 _
    | succ n =>
      have hq := HQ.out.2.2.2.1
      have b3 : decide (at_ < tp) = true := decide_eq_true (by omega)
      have HE2 := Aside0.mk (show rnM a b (n + 1) l' f' at_ acc = ruR a l f b from_ tp from by rw [← HE.out, hgk])
      clear HE
      have HCw := Aside0.mk (Kd.C_below HBo.out HB.out)
      have hu24b := HS.out.lt
      have HOKf := Aside0.mk (show ∀ k, wr.heap.size ≤ k → k ≠ g2 ∧ some k ≠ (Value.slice A5 acc.length c5).ownBlock from fun k hk => ⟨fun he => by have := blk_lt HZ.out; omega, fun he => by have := Kd.R_lt HR.out k he.symm; omega⟩)
      obtain ⟨Ag, cg, hbg, _⟩ := HS.out.cells
      have HNg := Aside0.mk (Kd.R_ne HR.out hbg (by decide))
      have HTI := Aside0.mk (Kd.R_tight (rfl : (Kd.int .u8).E = []) HR.out)
      have HLA := Aside0.mk (show (acc.length + 1) * 1 ≤ 140737488355328 from by have := HQ.out.2.2.2.2; omega)
      clear hu24b hbg
      obtain ⟨x, hx⟩ : ∃ x, bzX a (bzL a l' b at_) at_ = x := ⟨_, rfl⟩
      go_upto_region 9 with (go_at_call 34; (with_reducible refine (fetch_c w.heap.size g8 (fun k => k ≠ g2 ∧ some k ≠ (Value.slice A5 acc.length c5).ownBlock) a f' l' B cb b at_ wr HB.out.size HS.out HN5.out.1 HOKf.out HCw.out HCB.out ⟨HT.out.1.1, HT.out.1.2.1⟩ ⟨HQ.out.2.2.1, by have := HT.out.2; omega⟩ HQ.out.1 HQ.out.2.1 (by have := HLB.out; omega)).mono ?_); rw [hx]; rintro e w4 ⟨rfl, hS4, hb4, hk4⟩; have HS4 := Aside0.mk hS4; have HB4 := Aside0.mk (HB.out.trans hb4); have HK4 := Aside0.mk hk4; clear hS4 hb4 hk4)
      have HZ4 := Aside0.mk ((HK4.out.2 g2 (blk_lt HZ.out) (fun h => h.elim (fun h => h.1 rfl) (fun h => HN5.out.2 h))).trans HZ.out)
      have HR4 := Aside0.mk (Kd.R_mono (Kd.R_step HTI.out (fun k hk hlt => HK4.out.2 k hlt (fun h => h.elim (fun h => h.2 hk) (fun h => HNg.out (by rw [← h]; exact hk))))) (fun _ _ => trivial))
      clear HS HR HZ HB HCw HOKf HTI HK4
      by_cases hx0 : x < 0
      · have b4 : decide (x < 0) = true := decide_eq_true hx0
        have HEx := Aside0.mk (show (bzL a l' b at_, bzF a l' f' at_, acc) = ruR a l f b from_ tp from by rw [← HE2.out, rnM, hx, if_pos hx0])
        have HSx := HS4
        have HRx := HR4
        have HZx := HZ4
        have HBx := HB4
        clear HS4 HR4 HZ4 HB4
        obtain ⟨A7, c7, hbk, j0, j1, j2, _, hSS⟩ := HSx.out.cells
        have HSx2 := Aside0.mk hSS
        have z0 := (blk_cell HZx.out 0).trans rfl
        have z1 := (blk_cell HZx.out 1).trans rfl
        have z2 := (blk_cell HZx.out 2).trans rfl
        have f0 := blk_frozen HZx.out 0
        have f1 := blk_frozen HZx.out 1
        have f2 := blk_frozen HZx.out 2
        clear hSS hbk
        go_wp2
        refine bodyPost_ret (results_ct rfl _ _ g2 24 #[.int .i64 a, .slice A7 (bzL a l' b at_).length c7, .int .i64 (bzF a l' f' at_)] (0, 0) _ rfl (by refine blk_put (cs := #[.int .i64 a, .slice A7 (bzL a l' b at_).length c7, .int .i64 0]) ?_ 2 _ rfl; refine blk_put (cs := #[.int .i64 a, .slice none 0 0, .int .i64 0]) ?_ 1 _ rfl; refine blk_put (cs := #[.int .i64 0, .slice none 0 0, .int .i64 0]) ?_ 0 _ rfl; exact HZx.out) Try.underlying24 rfl (by kernel_rfl)) rfl ?_
        refine ⟨.slice A7 (bzL a l' b at_).length c7, .slice A5 acc.length c5, ?_, ?_, ?_, below_set (below_set (below_set HBx.out HG.out) HG.out) HG.out⟩
        · rw [← HEx.out]; rfl
        · rw [← HEx.out]; exact Kd.S_mono (S_fill HSx2.out HZx.out _ _ _) (fun _ hk => hk.2)
        · rw [← HEx.out]; exact Kd.R_set (Kd.R_set (Kd.R_set HRx.out HZx.out (by decide) 0 _) (blk_set HZx.out 0 _) (by decide) 1 _) (blk_set (blk_set HZx.out 0 _) 1 _) (by decide) 2 _
      · have b4 : decide (x < 0) = false := decide_eq_false hx0
        have HEn := Aside0.mk (show rnM a b n (bzL a l' b at_) (bzF a l' f' at_) (at_ + 1) (acc ++ [x % 256]) = ruR a l f b from_ tp from by rw [← HE2.out, rnM, hx, if_neg hx0])
        have hw1 : wrap64 (at_ + 1) = at_ + 1 := by have := HQ.out; have := HT.out.2; unfold wrap64; omega
        go_wp2_with (first | ((with_reducible refine gate_builtin (b := .append) (xs := #[.tmp 40, .tmp 43]) rfl ?_); at_builtin; refine Kd.R_append (Kd.int .u8) (w0 := w) w.heap.size rfl (.tmp 40) (.tmp 43) 30 5 (.int .u8 0) 1 rfl Try.underlying30 info5 rfl (by decide) (by omega) (.slice A5 acc.length c5) acc (x % 256) [.int .u8 (x % 256)] (fun _ => True) (fun _ => False) rfl rfl rfl (fun _ hk => hk.elim) (fun _ _ => trivial) HR4.out HB4.out HB4.out.size HLA.out ?_; intro v1 w1 ho hb hg hat; obtain ⟨A7, c7, e7⟩ := Kd.R_slice ho; subst e7; have HR7 := Aside0.mk ho; have HB7 := Aside0.mk hb; have HG7 := Aside0.mk hg; have HA7 := Aside0.mk hat; clear ho hb hg hat))
        go_roundg n
        case measure => (have := hgk; omega)
        case rel =>
          refine ⟨at_ + 1, A7, c7, acc ++ [x % 256], bzL a l' b at_, bzF a l' f' at_, (by first | rfl | (rw [List.length_append, List.length_singleton])), (by first | rfl | (simp only [hw1]) | (simp; done)), ⟨?_⟩, HR7, ⟨?_⟩, HB7, ⟨⟨bzL_len6 _ _ _ _ HQ.out.1, bzF_range _ _ _ _ HQ.out.2.1, by have := HQ.out; omega, by have := HQ.out; omega, by have := HQ.out; rw [List.length_append, List.length_singleton]; omega⟩⟩, HEn⟩
          · refine ((HS4.out.bound).step (fun k hk hlt => HG7.out.block k hlt (fun he => ?_))).mono (fun k hk => ⟨hk.1.1, fun he => ?_⟩)
            · rcases hk with hk | hk
              · exact hk.1.2 he
              · exact HNg.out (by rw [← hk]; exact he)
            · rcases HA7.out with h | ⟨bb, h, h2⟩
              · exact hk.1.2 (he.trans h)
              · have h3 := he.trans h
                injection h3 with h3
                have := hk.2
                omega
          · exact (HG7.out.block g2 (blk_lt HZ4.out) (Kd.R_ne HR4.out HZ4.out (by decide))).trans HZ4.out
def ruS (a : Int) (l : List S58) (f from_ tp : Int) : Int := if ruOk a l f from_ tp = true then a else 0
def ruL (a : Int) (l : List S58) (f : Int) (b : List Int) (from_ tp : Int) : List S58 := if ruOk a l f from_ tp = true then (ruR a l f b from_ tp).1 else []
def ruF (a : Int) (l : List S58) (f : Int) (b : List Int) (from_ tp : Int) : Int := if ruOk a l f from_ tp = true then (ruR a l f b from_ tp).2.1 else 0
def ruB (a : Int) (l : List S58) (f : Int) (b : List Int) (from_ tp : Int) : List Int := if ruOk a l f from_ tp = true then (ruR a l f b from_ tp).2.2 else []
theorem SourceRun_c (a f : Int) (A : Option Addr) (c : Nat) (l : List S58) (B : Option Addr) (cb : Nat) (b : List Int) (from_ tp : Int) (w : World) (hr : Kd.C k58 w A l.length l) (hc : l.length ≤ c) (hl : l.length ≤ 1048576) (hd : ∀ x ∈ l, x.f1.length ≤ 1048576) (hB : Kd.C (Kd.int .u8) w B b.length b) (hcb : b.length ≤ cb) (hb : b.length ≤ 1048576) :
    Calls Try.prog 15 #[.agg #[.int .i64 a, .slice A l.length c, .int .i64 f], .slice B b.length cb, .int .i64 from_, .int .i64 tp] w fun e w' => ∃ v u, e = .returned (.tuple #[.agg #[.int .i64 (ruS a l f from_ tp), v, .int .i64 (ruF a l f b from_ tp)], u]) ∧ Kd.S k58 58 w' w.heap.size (fun k => some k ≠ u.ownBlock) v (ruL a l f b from_ tp) ∧ Kd.R (Kd.int .u8) 5 w' w.heap.size (fun _ => True) u (ruB a l f b from_ tp) ∧ Below w.heap.size w w' := by
  by_cases ho : ruOk a l f from_ tp = true
  · refine (SourceRun_yes a f A c l B cb b from_ tp w hr hc hd hB hcb hb ho).mono ?_
    rintro e w' ⟨v, u, rfl, h⟩
    refine ⟨v, u, ?_, ?_⟩
    · simp only [ruS, ruF, if_pos ho]
    · rw [ruL, ruB, if_pos ho, if_pos ho]; exact h
  · have ho' : ruOk a l f from_ tp = false := by simpa using ho
    refine (SourceRun_no a f A c l B b.length cb from_ tp w hr hc hl ho').mono ?_
    rintro e w' ⟨rfl, h⟩
    refine ⟨.slice none 0 0, .slice none 0 0, ?_, ?_, ?_, h⟩
    · simp only [ruS, ruF, if_neg ho]
    · rw [ruL, if_neg ho]; exact Kd.S_nil _ _ _ _ _
    · rw [ruB, if_neg ho]; exact Kd.R_nil _ _ _ _ _

/-! ### spec_l02Part: function 39 -/
def spec_l02Part.l0 : Nat → List Int → Int → Int → List Int → Int → Option (List Int)
  | 0, _, _, _, _, _ => none
  | k + 1, x0, x1, x2, x7, x8 => if x8 < (wrap64 (x1 + x2)) then (if x8 < (x0.length : Int) then (if 0 ≤ x8 then (if x7.length < 140737488355328 then (spec_l02Part.l0 k x0 x1 x2 (x7 ++ [rd x0 x8]) (wrap64 (x8 + 1))) else (none)) else (none)) else (some x7)) else (some x7)
def spec_l02Part.f (k : Nat) (l0 : List Int) (a1 : Int) (a2 : Int) : Option (List Int) := spec_l02Part.l0 k l0 a1 a2 (([] : List Int)) a1
theorem spec_l02Part.mono_l : ∀ k, (∀ y0 y1 y2 y3 y4, LeO (spec_l02Part.l0 k y0 y1 y2 y3 y4) (spec_l02Part.l0 (k + 1) y0 y1 y2 y3 y4))
  | 0 => fun _ _ _ _ _ r h => by simp [spec_l02Part.l0] at h
  | k + 1 => by
    have ih0 := spec_l02Part.mono_l k
    · intro y0 y1 y2 y3 y4
      unfold spec_l02Part.l0
      repeat' first
      | (with_reducible exact ih0 _ _ _ _ _)
      | (with_reducible exact LeO.refl _)
      | (with_reducible exact LeO.none _)
      | (with_reducible refine LeO.ite ?_ ?_)
      | (with_reducible refine LeO.bind ?_ (fun _ => ?_))
      | exact ih0 _ _ _ _ _
      | exact LeO.none _
      | refine LeO.ite ?_ ?_
      | refine LeO.bind ?_ (fun _ => ?_)
theorem spec_l02Part.mono : ∀ a0 a1 a2 k, LeO (spec_l02Part.f k a0 a1 a2) (spec_l02Part.f (k + 1) a0 a1 a2) := by
  intro a0 a1 a2 k
  have ih0 := spec_l02Part.mono_l k
  unfold spec_l02Part.f
  repeat' first
      | (with_reducible exact ih0 _ _ _ _ _)
      | (with_reducible exact LeO.refl _)
      | (with_reducible exact LeO.none _)
      | (with_reducible refine LeO.ite ?_ ?_)
      | (with_reducible refine LeO.bind ?_ (fun _ => ?_))
      | exact ih0 _ _ _ _ _
      | exact LeO.none _
      | refine LeO.ite ?_ ?_
      | refine LeO.bind ?_ (fun _ => ?_)
set_option maxHeartbeats 8000000 in
set_option maxRecDepth 100000 in
theorem spec_l02Part.calls (k : Nat) (A0 : Option Addr) (c0 : Nat) (l0 : List Int) (a1 : Int) (a2 : Int) (r : List Int) (w : World) (hr0 : Kd.C (Kd.int .u8) w A0 l0.length l0) (hc0 : l0.length ≤ c0) (h : spec_l02Part.f k l0 a1 a2 = some r) :
    Calls Try.prog 39 #[.slice A0 l0.length c0, .int .i64 a1, .int .i64 a2] w fun e w' => ∃ v0_ : Value, e = .returned (v0_) ∧ Kd.R (Kd.int .u8) 5 w' w.heap.size (fun _ => True) v0_ r ∧ Below w.heap.size w w' := by
  have HR0 := Aside0.mk hr0
  have HC0 := Aside0.mk hc0
  clear hr0 hc0
  have HB := Aside0.mk (Below.refl w.heap.size w)
  have H : (spec_l02Part.l0 k l0 a1 a2 (([] : List Int)) a1) = some r := h
  clear h
  obtain ⟨y120, hy120⟩ : ∃ y_ : List Int, y_ = (([] : List Int)) := ⟨_, rfl⟩
  replace H : (spec_l02Part.l0 k l0 a1 a2 y120 a1) = some r := by first | (rw [hy120]; with_reducible exact H) | (have H2_ := (Option.bind_some _ _).symm.trans H; rw [hy120]; with_reducible exact H2_) | (have H2_ := (Option.bind_some _ _).symm.trans H; with_reducible exact H2_) | with_reducible exact H | (rw [hy120]; exact H) | exact H
  have Ny120 := Aside0.mk hy120
  clear hy120
  have H' := Aside0.mk H
  clear H
  go_enter Try.func39, Try.ntmps39
  go_wp2_with (first | ((with_reducible refine gate_dst (N := 9) rfl ?_); (try (refine gate_guard (by rfl) ?_; dsimp only)); refine Kd.R_lit (Kd.int .u8) _ 5 ?hg (N := 9) ?hd (xs := ([] : List Int)) (inner := []) (ok := fun _ => True) (okp := fun _ => True) ?hr ?hp (fun _ hk => hk) trivial (Below.refl _ _) (Nat.le_refl _) (by simp) ?_; (case hd => rfl); (case hg => rfl); (case hr => first | (go_simp; done) | (go_simp; rfl)); (case hp => exact (Reps.none _ _)); intro v121 w4 ho5 hb hg_ hnew_; clear hg_ hnew_; (first | rw [← Ny120.out] at ho5 | (simp only [Int.reduceToNat] at ho5; rw [← Ny120.out] at ho5)); have n0_ := Aside0.mk (Kd.R_lower ho5 (below_size (by repeat (first | (with_reducible first | exact HB.out | apply below_alloc | apply pw_below_drewN | apply below_drew1) | exact HB.out)))); have n1_ := Aside0.mk (below_step (by repeat (first | (with_reducible first | exact HB.out | apply below_alloc | apply pw_below_drewN | apply below_drew1) | exact HB.out)) hb); clear HB; have HO122 := n0_; have HB := n1_; clear n0_ n1_; clear hb ho5))
  go_loopg [7, 8] k (fun kq v7 v8 w' => ∃ (x7_1 : List Int) (x8_1 : Int), v8 = .int .i64 x8_1 ∧ Aside0 (spec_l02Part.l0 kq l0 a1 a2 x7_1 x8_1 = some r) ∧ Aside0 (kq ≤ k) ∧ Aside0 (Kd.R (Kd.int .u8) 5 w' w.heap.size (fun _ => True) v7 x7_1) ∧ Aside0 (Below w.heap.size w w'))
  case atStart => exact ⟨(y120), (a1), (by first | rfl | (simp; done) | (simp [*]; done)), H', ⟨Nat.le_refl _⟩, ⟨by (with_reducible repeat (first | apply Kd.R_alloc | apply Kd.R_drewN | apply Kd.R_drew)); exact HO122.out⟩, ⟨by repeat (first | (with_reducible first | exact HB.out | apply below_alloc | apply pw_below_drewN | apply below_drew1) | exact HB.out)⟩⟩
  case round =>
    clear H'
    try clear p2
    try clear c3
    obtain ⟨x7_1, x8_1, rfl, HA, HK1, HO_7, HB⟩ := hrel
    cases gk with
    | zero => exact absurd HA.out (by simp [spec_l02Part.l0])
    | succ k1 =>
      have H := HA.out
      clear HA
      simp only [spec_l02Part.l0] at H
      by_cases c6 : x8_1 < (wrap64 (a1 + a2))
      · rw [if_pos c6] at H
        have c6b0 : decide (x8_1 < (wrap64 (a1 + a2))) = true := decide_eq_true c6
        clear c6
        by_cases c7 : x8_1 < (l0.length : Int)
        · rw [if_pos c7] at H
          have c7b0 : decide (x8_1 < (l0.length : Int)) = true := decide_eq_true c7
          clear c7
          by_cases c8 : 0 ≤ x8_1
          · rw [if_pos c8] at H
            have c8b0 : decide (0 ≤ x8_1) = true := decide_eq_true c8
            clear c8
            by_cases c9 : x7_1.length < 140737488355328
            · rw [if_pos c9] at H
              have LMc9 := Aside0.mk c9
              clear c9
              obtain ⟨y124, hy124⟩ : ∃ y_ : List Int, y_ = (x7_1 ++ [rd l0 x8_1]) := ⟨_, rfl⟩
              replace H : (spec_l02Part.l0 k1 l0 a1 a2 y124 (wrap64 (x8_1 + 1))) = some r := by first | (rw [hy124]; with_reducible exact H) | (have H2_ := (Option.bind_some _ _).symm.trans H; rw [hy124]; with_reducible exact H2_) | (have H2_ := (Option.bind_some _ _).symm.trans H; with_reducible exact H2_) | with_reducible exact H | (rw [hy124]; exact H) | exact H
              have Ny124 := Aside0.mk hy124
              clear hy124
              have H' := Aside0.mk H
              clear H
              have p123 : 0 ≤ (x8_1 : Int) := of_decide_eq_true (by first | (with_reducible assumption) | assumption)
              have q123 : x8_1 < (l0.length : Int) := of_decide_eq_true (by first | (with_reducible assumption) | assumption)
              obtain ⟨ad123, e123, hx123_0⟩ := Kd.at_int HR0.out x8_1 p123 q123
              cases e123
              replace hx123_0 := (HB.out.cell (World.block_lt_of_cell? w _ hx123_0)).trans hx123_0
              replace p123 := eq_true p123
              replace q123 := eq_true q123
              go_wp2_with (first | ((with_reducible refine gate_builtin (b := .append) (xs := #[.tmp 24, .tmp 29]) rfl ?_); (try (refine gate_guard (by rfl) ?_; dsimp only)); at_builtin; refine Kd.R_append (Kd.int .u8) (w0 := w) w.heap.size rfl (.tmp 24) (.tmp 29) 30 5 (.int .u8 0) 1 rfl Try.underlying30 info5 rfl (by decide) (by omega) u7 x7_1 (rd l0 x8_1) [.int .u8 (rd l0 x8_1)] (fun _ => True) (fun _ => False) rfl rfl ?aP (fun _ hk => hk.elim) ?aF ?aO ?aB ?aS ?aL ?_; (case aP => exact rfl); (case aB => exact (by repeat (first | (with_reducible first | exact HB.out | apply below_alloc | apply pw_below_drewN | apply below_drew1) | exact HB.out))); (case aF => exact (fun _ _ => trivial)); (case aO => exact (by (with_reducible repeat (first | apply Kd.R_alloc | apply Kd.R_drewN | apply Kd.R_drew)); exact HO_7.out)); (case aS => exact (below_size (by repeat (first | (with_reducible first | exact HB.out | apply below_alloc | apply pw_below_drewN | apply below_drew1) | exact HB.out)))); (case aL => have := LMc9.out; omega); intro v125 w10 ho hb hg hat; rw [← Ny124.out] at ho; have n0_ := Aside0.mk (hb); have n1_ := Aside0.mk (ho); clear HB; clear HO_7; have HB := n0_; have HO126 := n1_; clear n0_ n1_; clear ho hb hg hat))
              go_roundg k1
              case measure => have := HK1.out; omega
              case rel => exact ⟨(y124), (wrap64 (x8_1 + 1)), (by first | rfl | (simp; done) | (simp [*]; done)), H', ⟨by have := HK1.out; omega⟩, ⟨by (with_reducible repeat (first | apply Kd.R_alloc | apply Kd.R_drewN | apply Kd.R_drew)); exact HO126.out⟩, ⟨by repeat (first | (with_reducible first | exact HB.out | apply below_alloc | apply pw_below_drewN | apply below_drew1) | exact HB.out)⟩⟩
            · rw [if_neg c9] at H
              exact absurd H (by simp)
          · rw [if_neg c8] at H
            exact absurd H (by simp)
        · rw [if_neg c7] at H
          have c7b0 : decide (x8_1 < (l0.length : Int)) = false := decide_eq_false c7
          clear c7
          obtain rfl := Option.some.inj H
          go_wp2
          go_ret
          exact ⟨_, by first | rfl | (simp [errW_none, errW_some] <;> rfl) | (simp [*, errW_none, errW_some] <;> rfl), by (with_reducible repeat (first | apply Kd.R_alloc | apply Kd.R_drewN | apply Kd.R_drew)); exact HO_7.out, by repeat (first | (with_reducible first | exact HB.out | apply below_alloc | apply pw_below_drewN | apply below_drew1) | exact HB.out)⟩
      · rw [if_neg c6] at H
        have c6b0 : decide (x8_1 < (wrap64 (a1 + a2))) = false := decide_eq_false c6
        clear c6
        obtain rfl := Option.some.inj H
        go_wp2
        go_ret
        exact ⟨_, by first | rfl | (simp [errW_none, errW_some] <;> rfl) | (simp [*, errW_none, errW_some] <;> rfl), by (with_reducible repeat (first | apply Kd.R_alloc | apply Kd.R_drewN | apply Kd.R_drew)); exact HO_7.out, by repeat (first | (with_reducible first | exact HB.out | apply below_alloc | apply pw_below_drewN | apply below_drew1) | exact HB.out)⟩

end Go.Proofs.Ytbjkaapkmemojaa.PFnSource
