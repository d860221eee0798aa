-- Written by a program of this session, out of the translation.
import Derived.Test.YtbjkaapkmemojaaPFnSourcex0
import Derived.Test.YtbjkaapkmemojaaPFnSourcex1
import Derived.Test.YtbjkaapkmemojaaPFnSourcex2
import Derived.Test.YtbjkaapkmemojaaPFnSourcex3
import Derived.Test.YtbjkaapkmemojaaPFnSourcex4
namespace Go.Proofs.Ytbjkaapkmemojaa.PFnSource
open Go.RowKit Go.Proofs.YtbjkaapkmemojaaW.PrintWords Go.Proofs.YtbjkaapkmemojaaW.PrintLast Go.Proofs.YtbjkaapkmemojaaW.PrintMore
attribute [local go_sem] max2_int min2_int max_two min_two max_three min_three max_four min_four   -- for this text's walks alone
set_option linter.unusedVariables false
set_option linter.unusedSimpArgs false

/-! ### impl_SourceByte: function 17 -/
theorem w64 {x : Int} (h0 : -9223372036854775808 ≤ x) (h1 : x ≤ 9223372036854775807) : wrap64 x = x := by unfold wrap64; omega
theorem impl_within_ok (a b c : Int) : impl_within.f a b c = some (decide (b ≤ a ∧ a ≤ c)) := by
  unfold impl_within.f
  by_cases h : a ≥ b
  · rw [if_pos h]; simp only [Option.some.injEq, decide_eq_decide]; omega
  · rw [if_neg h]; simp only [Option.some.injEq]; symm; simp only [decide_eq_false_iff_not]; omega
theorem pgAt_nn (num : Int) (l : List S58) : ∀ i : Int, 0 ≤ i → pgAt num l i = -1 ∨ 0 ≤ pgAt num l i := by
  induction l with
  | nil => intro i _; exact .inl rfl
  | cons x r ih =>
    intro i h
    rw [pgAt]
    split
    · exact .inr h
    · exact ih (i + 1) (by omega)
theorem impl_pageAt_ok (l : List S58) (h : l.length ≤ 1000000000000) (num : Int) (k : Nat) : impl_pageAt.f k l num = some (pgAt num l 0) := by
  unfold impl_pageAt.f
  rw [if_pos h]
def pgGood (size : Int) (l : List S58) (i : Nat) : Prop := 0 ≤ (rd_T58 l (i : Int)).f0 ∧ ((rd_T58 l (i : Int)).f1.length : Int) ≤ size ∧ pgAt (rd_T58 l (i : Int)).f0 (l.take i) 0 < 0
instance (size : Int) (l : List S58) (i : Nat) : Decidable (pgGood size l i) := by unfold pgGood; infer_instance
def pgAll (size : Int) (l : List S58) : Nat → Nat → Bool
  | 0, _ => true
  | d + 1, i => decide (pgGood size l i) && pgAll size l d (i + 1)
def srcM (size : Int) (l : List S58) (fe : Int) : Bool := pgAll size l l.length 0 && decide (1 ≤ size ∧ size ≤ 60000 ∧ l.length ≤ 6 ∧ 0 ≤ fe ∧ fe ≤ 4294967295)
theorem impl_SourceOk_l0 (size : Int) (l : List S58) (hl : l.length ≤ 1048576) (fe : Int) (d : Nat) : ∀ (k i : Nat), i + d = l.length → d + 1 ≤ k →
    impl_SourceOk.l0 k l (l.length : Int) (i : Int) size l fe = some (pgAll size l d i && decide (1 ≤ size ∧ size ≤ 60000 ∧ l.length ≤ 6 ∧ 0 ≤ fe ∧ fe ≤ 4294967295)) := by
  induction d with
  | zero =>
    intro k i hi hk
    obtain ⟨k, rfl⟩ : ∃ m, k = m + 1 := ⟨k - 1, by omega⟩
    rw [impl_SourceOk.l0, if_neg (by omega), pgAll, impl_within_ok, impl_within_ok, Option.bind_some, Option.bind_some, Bool.true_and]
    by_cases h1 : 1 ≤ size ∧ size ≤ 60000
    · rw [if_pos (decide_eq_true h1)]
      by_cases h2 : (l.length : Int) ≤ 6
      · rw [if_pos h2]; congr 1; rw [decide_eq_decide]; omega
      · rw [if_neg h2]; congr 1; symm; rw [decide_eq_false_iff_not]; omega
    · rw [if_neg (by simpa using h1)]; congr 1; symm; rw [decide_eq_false_iff_not]; omega
  | succ d ih =>
    intro k i hi hk
    obtain ⟨k, rfl⟩ : ∃ m, k = m + 1 := ⟨k - 1, by omega⟩
    have hg : pgGood size l i ↔ (0 ≤ (rd_T58 l (i : Int)).f0 ∧ ((rd_T58 l (i : Int)).f1.length : Int) ≤ size ∧ pgAt (rd_T58 l (i : Int)).f0 (l.take i) 0 < 0) := Iff.rfl
    rw [impl_SourceOk.l0, if_pos (by omega), if_pos (by omega), if_pos (by omega), w64 (by omega) (by omega), pgAll, show (i : Int) + 1 = ((i + 1 : Nat) : Int) by omega, ih k (i + 1) (by omega) (by omega), show ((i : Int)).toNat = i from rfl]
    generalize rd_T58 l (i : Int) = x at hg ⊢
    by_cases h1 : x.f0 < 0
    · rw [if_pos h1, decide_eq_false (p := pgGood size l i) (by rw [hg]; omega)]; rfl
    · rw [if_neg h1, if_pos (by omega), impl_pageAt_ok _ (by rw [List.length_take]; omega), Option.bind_some]
      by_cases h2 : pgAt x.f0 (l.take i) 0 ≥ 0
      · rw [if_pos h2, decide_eq_false (p := pgGood size l i) (by rw [hg]; omega)]; rfl
      · rw [if_neg h2]
        by_cases h3 : (x.f1.length : Int) > size
        · rw [if_pos h3, decide_eq_false (p := pgGood size l i) (by rw [hg]; omega)]; rfl
        · rw [if_neg h3, decide_eq_true (p := pgGood size l i) (by rw [hg]; omega), Bool.true_and]
theorem impl_SourceOk_ok (size : Int) (l : List S58) (hl : l.length ≤ 1048576) (fe : Int) (k : Nat) (hk : l.length + 1 ≤ k) : impl_SourceOk.f k size l fe = some (srcM size l fe) := by
  unfold impl_SourceOk.f
  exact impl_SourceOk_l0 size l hl fe l.length k 0 (by omega) hk
theorem spec_SourceOk_l1 (size : Int) (l y : List S58) (hy : y.length ≤ 1048576) (fe num : Int) (dat : List Int) (i K : Nat) (hi : i ≤ 1048576) (R : Bool) (hn : ∀ k, K ≤ k → spec_SourceOk.l0 k l (l.length : Int) ((i + 1 : Nat) : Int) size l fe = some R) (d : Nat) : ∀ (k j : Nat), j + d = y.length → d + 1 + K ≤ k →
    spec_SourceOk.l1 k l (l.length : Int) (i : Int) y (y.length : Int) (j : Int) size l fe num dat = some (if 0 ≤ pgAt num (y.drop j) (j : Int) then false else R) := by
  induction d with
  | zero =>
    intro k j hj hk
    obtain ⟨k, rfl⟩ : ∃ m, k = m + 1 := ⟨k - 1, by omega⟩
    rw [spec_SourceOk.l1, if_neg (by omega), w64 (by omega) (by omega), show (i : Int) + 1 = ((i + 1 : Nat) : Int) by omega, hn k (by omega), List.drop_of_length_le (by omega), pgAt, if_neg (by omega)]
  | succ d ih =>
    intro k j hj hk
    obtain ⟨k, rfl⟩ : ∃ m, k = m + 1 := ⟨k - 1, by omega⟩
    rw [spec_SourceOk.l1, if_pos (by omega), if_pos (by omega), if_pos (by omega), w64 (by omega) (by omega), show (j : Int) + 1 = ((j + 1 : Nat) : Int) by omega, ih k (j + 1) (by omega) (by omega), pgAt_at num y j (by omega)]
    by_cases h : (rd_T58 y (j : Int)).f0 = num
    · rw [if_pos h, if_pos h, if_pos (by omega)]
    · rw [if_neg h, if_neg h]
theorem spec_SourceOk_l0 (size : Int) (l : List S58) (hl : l.length ≤ 1048576) (fe : Int) (d : Nat) : ∀ (k i : Nat), i + d = l.length → d * (l.length + 5) + 1 ≤ k →
    spec_SourceOk.l0 k l (l.length : Int) (i : Int) size l fe = some (pgAll size l d i) := by
  induction d with
  | zero =>
    intro k i hi hk
    obtain ⟨k, rfl⟩ : ∃ m, k = m + 1 := ⟨k - 1, by omega⟩
    rw [spec_SourceOk.l0, if_neg (by omega), pgAll]
  | succ d ih =>
    intro k i hi hk
    rw [Nat.succ_mul] at hk
    obtain ⟨k, rfl⟩ : ∃ m, k = m + 2 := ⟨k - 2, by omega⟩
    have hg : pgGood size l i ↔ (0 ≤ (rd_T58 l (i : Int)).f0 ∧ ((rd_T58 l (i : Int)).f1.length : Int) ≤ size ∧ pgAt (rd_T58 l (i : Int)).f0 (l.take i) 0 < 0) := Iff.rfl
    rw [spec_SourceOk.l0, if_pos (by omega), if_pos (by omega), if_pos (by omega), pgAll]
    generalize rd_T58 l (i : Int) = x at hg ⊢
    have ht : (l.take i).length = i := by rw [List.length_take]; omega
    have hj : spec_SourceOk.j2 (k + 1) (i : Int) l (l.length : Int) (i : Int) true size l fe x.f0 x.f1 = some false := by rw [spec_SourceOk.j2, if_pos rfl]
    by_cases h1 : x.f0 < 0
    · rw [if_pos h1, hj, decide_eq_false (p := pgGood size l i) (by rw [hg]; omega)]; rfl
    · rw [if_neg h1]
      by_cases h3 : (x.f1.length : Int) > size
      · rw [decide_eq_true h3, hj, decide_eq_false (p := pgGood size l i) (by rw [hg]; omega)]; rfl
      · rw [decide_eq_false h3, spec_SourceOk.j2, if_neg (by decide), if_pos (by omega), if_pos (by omega), Option.bind_some, show ((i : Int)).toNat = i from rfl]
        have := spec_SourceOk_l1 size l (l.take i) (by omega) fe x.f0 x.f1 i (d * (l.length + 5) + 1) (by omega) _ (fun k hk => ih k (i + 1) (by omega) hk) i k 0 (by omega) (by omega)
        rw [show ((0 : Nat) : Int) = 0 from rfl, List.drop_zero] at this
        rw [this]
        by_cases h2 : 0 ≤ pgAt x.f0 (l.take i) 0
        · rw [if_pos h2, decide_eq_false (p := pgGood size l i) (by rw [hg]; omega)]; rfl
        · rw [if_neg h2, decide_eq_true (p := pgGood size l i) (by rw [hg]; omega), Bool.true_and]
theorem spec_SourceOk_ok (size : Int) (l : List S58) (hl : l.length ≤ 1048576) (fe : Int) (k : Nat) (hk : l.length * (l.length + 5) + 2 ≤ k) : spec_SourceOk.f k size l fe = some (pgAll size l l.length 0 && decide (1 ≤ size ∧ size ≤ 60000 ∧ l.length ≤ 6 ∧ 0 ≤ fe ∧ fe ≤ 4294967295)) := by
  obtain ⟨k, rfl⟩ : ∃ m, k = m + 1 := ⟨k - 1, by omega⟩
  have t : spec_SourceOk.j0 (k + 1) true size l fe = some false := by rw [spec_SourceOk.j0, if_pos rfl]
  unfold spec_SourceOk.f
  rw [t]
  by_cases h1 : size < 1
  · rw [if_pos h1, decide_eq_false (by omega), Bool.and_false]
  · rw [if_neg h1]
    by_cases h2 : size > 60000
    · rw [if_pos h2, decide_eq_false (by omega), Bool.and_false]
    · rw [if_neg h2]
      by_cases h3 : (l.length : Int) > 6
      · rw [if_pos h3, decide_eq_false (by omega), Bool.and_false]
      · rw [if_neg h3]
        by_cases h4 : fe < 0
        · rw [if_pos h4, decide_eq_false (by omega), Bool.and_false]
        · rw [if_neg h4]
          by_cases h5 : fe > 4294967295
          · rw [decide_eq_true h5, t, decide_eq_false (by omega), Bool.and_false]
          · rw [decide_eq_false h5, spec_SourceOk.j0, if_neg (by decide), decide_eq_true (by omega), Bool.and_true]
            exact spec_SourceOk_l0 size l hl fe l.length k 0 (by omega) (by omega)
def byOk (a : Int) (l : List S58) (f at_ : Int) : Bool := srcM a l f && decide (0 ≤ at_ ∧ at_ ≤ 60000)
def byS (a : Int) (l : List S58) (f at_ : Int) : Int := if byOk a l f at_ = true then a else 0
def byL (a : Int) (l : List S58) (f : Int) (b : List Int) (at_ : Int) : List S58 := if byOk a l f at_ = true then bzL a l b at_ else []
def byF (a : Int) (l : List S58) (f at_ : Int) : Int := if byOk a l f at_ = true then bzF a l f at_ else 0
def byX (a : Int) (l : List S58) (f : Int) (b : List Int) (at_ : Int) : Int := if byOk a l f at_ = true then bzX a (bzL a l b at_) at_ else -1
theorem srcM_facts {a : Int} {l : List S58} {f : Int} (h : srcM a l f = true) : 1 ≤ a ∧ a ≤ 60000 ∧ l.length ≤ 6 ∧ 0 ≤ f ∧ f ≤ 4294967295 := by
  unfold srcM at h
  rw [Bool.and_eq_true, decide_eq_true_eq] at h
  exact h.2
set_option maxHeartbeats 4000000 in
set_option maxRecDepth 100000 in
theorem SourceByte_no (a f : Int) (A : Option Addr) (c : Nat) (l : List S58) (B : Option Addr) (cb : Nat) (b : List Int) (at_ : Int) (w : World) (hr : Kd.C k58 w A l.length l) (hc : l.length ≤ c) (hl : l.length ≤ 1048576) (ho : byOk a l f at_ = false) :
    Calls Try.prog 17 #[.agg #[.int .i64 a, .slice A l.length c, .int .i64 f], .slice B b.length cb, .int .i64 at_] w fun e w' => e = .returned (.tuple #[.agg #[.int .i64 0, .slice none 0 0, .int .i64 0], .int .i64 (-1)]) ∧ Below w.heap.size w w' := by
  have hu := Try.underlying24
  have q1 := impl_SourceOk_ok a l hl f (l.length + 1) (Nat.le_refl _)
  have q2 := impl_within_ok at_ 0 60000
  have HC := Aside0.mk hc
  have HB := Aside0.mk (below_alloc (below_alloc (Below.refl w.heap.size w) (.cells #[.int .i64 a, .slice A l.length c, .int .i64 f] 24)) zSrc)
  have HR := Aside0.mk (Kd.C_below hr HB.out)
  have HZ := Aside0.mk (heap_alloc_new (w.alloc (.cells #[.int .i64 a, .slice A l.length c, .int .i64 f] 24)) zSrc)
  have HG := Aside0.mk (show w.heap.size ≤ (w.alloc (.cells #[.int .i64 a, .slice A l.length c, .int .i64 f] 24)).heap.size from by rw [World.size_alloc]; omega)
  have hs := World.size_alloc w (.cells #[.int .i64 a, .slice A l.length c, .int .i64 f] 24)
  have e0 : ((w.alloc (.cells #[.int .i64 a, .slice A l.length c, .int .i64 f] 24)).alloc zSrc).heap[w.heap.size]? = some (.cells #[.int .i64 a, .slice A l.length c, .int .i64 f] 24 (0, 0)) := blk_alloc (heap_alloc_new w _) _
  clear hr hc hl
  unfold byOk at ho
  go_enter Try.func17, Try.ntmps17
  go_upto_region 1 with fail
  rw [hs] at HZ HG
  change Code.wp _ _ _ _ ((w.alloc (.cells #[.int .i64 a, .slice A l.length c, .int .i64 f] 24)).alloc zSrc)
  generalize (w.alloc (.cells #[.int .i64 a, .slice A l.length c, .int .i64 f] 24)).alloc zSrc = W0 at HB HR HZ e0 ⊢
  have c0 := (blk_cell e0 0).trans rfl
  have c1 := (blk_cell e0 1).trans rfl
  have c2 := (blk_cell e0 2).trans rfl
  generalize w.heap.size + 1 = g2 at HZ HG ⊢
  clear e0 hs
  by_cases hs : srcM a l f = true
  · rw [hs] at q1 ho
    rw [Bool.true_and] at ho
    rw [ho] at q2
    go_wp2_with (first | (go_at_call 16; (with_reducible refine (impl_SourceOk.calls (l.length + 1) a A c l f true _ HR.out HC.out q1).mono ?_); rintro e w' ⟨rfl, hb⟩; have HZ1 := Aside0.mk ((hb.block _ (blk_lt HZ.out)).trans HZ.out); have z0 := (blk_cell HZ1.out 0).trans rfl; have z1 := (blk_cell HZ1.out 1).trans rfl; have z2 := (blk_cell HZ1.out 2).trans rfl; have f0 := blk_frozen HZ1.out 0; have f1 := blk_frozen HZ1.out 1; have f2 := blk_frozen HZ1.out 2; have HB1 := Aside0.mk (below_step HB.out hb); clear hb) | (go_at_call 36; (with_reducible refine (impl_within.calls at_ 0 60000 false _ q2).mono ?_); rintro e w' ⟨rfl, ⟨nd, rfl⟩⟩))
    refine bodyPost_ret (results_ct rfl _ _ g2 24 #[.int .i64 0, .slice none 0 0, .int .i64 0] (0, 0) _ rfl (by refine blk_put (cs := #[.int .i64 0, .slice none 0 0, .int .i64 0]) ?_ 2 _ rfl; refine blk_put (cs := #[.int .i64 0, .slice none 0 0, .int .i64 0]) ?_ 1 _ rfl; refine blk_put (cs := #[.int .i64 0, .slice none 0 0, .int .i64 0]) ?_ 0 _ rfl; exact blk_drewN HZ1.out _) Try.underlying24 rfl (by kernel_rfl)) rfl ?_
    exact ⟨rfl, below_set (below_set (below_set (pw_below_drewN HB1.out _) HG.out) HG.out) HG.out⟩
  · have hs' : srcM a l f = false := by simpa using hs
    rw [hs'] at q1
    go_wp2_with (go_at_call 16; (with_reducible refine (impl_SourceOk.calls (l.length + 1) a A c l f false _ HR.out HC.out q1).mono ?_); rintro e w' ⟨rfl, hb⟩; have HZ1 := Aside0.mk ((hb.block _ (blk_lt HZ.out)).trans HZ.out); have z0 := (blk_cell HZ1.out 0).trans rfl; have z1 := (blk_cell HZ1.out 1).trans rfl; have z2 := (blk_cell HZ1.out 2).trans rfl; have f0 := blk_frozen HZ1.out 0; have f1 := blk_frozen HZ1.out 1; have f2 := blk_frozen HZ1.out 2; have HB1 := Aside0.mk (below_step HB.out hb); clear hb)
    refine bodyPost_ret (results_ct rfl _ _ g2 24 #[.int .i64 0, .slice none 0 0, .int .i64 0] (0, 0) _ rfl (by refine blk_put (cs := #[.int .i64 0, .slice none 0 0, .int .i64 0]) ?_ 2 _ rfl; refine blk_put (cs := #[.int .i64 0, .slice none 0 0, .int .i64 0]) ?_ 1 _ rfl; refine blk_put (cs := #[.int .i64 0, .slice none 0 0, .int .i64 0]) ?_ 0 _ rfl; exact HZ1.out) Try.underlying24 rfl (by kernel_rfl)) rfl ?_
    exact ⟨rfl, below_set (below_set (below_set (HB1.out) HG.out) HG.out) HG.out⟩
set_option maxHeartbeats 4000000 in
set_option maxRecDepth 100000 in
theorem SourceByte_yes (a f : Int) (A : Option Addr) (c : Nat) (l : List S58) (B : Option Addr) (cb : Nat) (b : List Int) (at_ : Int) (w : World) (hr : Kd.C k58 w A l.length l) (hc : l.length ≤ c) (hd : ∀ x ∈ l, x.f1.length ≤ 1048576) (hB : Kd.C (Kd.int .u8) w B b.length b) (hcb : b.length ≤ cb) (hb : b.length ≤ 1048576) (ho : byOk a l f at_ = true) :
    Calls Try.prog 17 #[.agg #[.int .i64 a, .slice A l.length c, .int .i64 f], .slice B b.length cb, .int .i64 at_] w fun e w' => ∃ v, e = .returned (.tuple #[.agg #[.int .i64 a, v, .int .i64 (bzF a l f at_)], .int .i64 (bzX a (bzL a l b at_) at_)]) ∧ Kd.S k58 58 w' w.heap.size (fun _ => True) v (bzL a l b at_) ∧ Below w.heap.size w w' := by
  have hu := Try.underlying24
  unfold byOk at ho
  rw [Bool.and_eq_true, decide_eq_true_eq] at ho
  obtain ⟨hs, hat⟩ := ho
  have hsf := srcM_facts hs
  have q1 := impl_SourceOk_ok a l (by omega) f (l.length + 1) (Nat.le_refl _)
  rw [hs] at q1
  have q2 := impl_within_ok at_ 0 60000
  rw [decide_eq_true hat] at q2
  have HC := Aside0.mk hc
  have HT := Aside0.mk (And.intro hsf hat)
  have HD := Aside0.mk (show ∀ x ∈ l, x.f1.length ≤ 1000000000000 from fun x hx => Nat.le_trans (hd x hx) (by decide))
  have HCB := Aside0.mk hcb
  have HLB := Aside0.mk hb
  have HB := Aside0.mk (below_alloc (below_alloc (Below.refl w.heap.size w) (.cells #[.int .i64 a, .slice A l.length c, .int .i64 f] 24)) zSrc)
  have HR := Aside0.mk (Kd.C_below hr HB.out)
  have HBB := Aside0.mk (Kd.C_below hB HB.out)
  have HZ := Aside0.mk (heap_alloc_new (w.alloc (.cells #[.int .i64 a, .slice A l.length c, .int .i64 f] 24)) zSrc)
  have HG := Aside0.mk (show w.heap.size ≤ (w.alloc (.cells #[.int .i64 a, .slice A l.length c, .int .i64 f] 24)).heap.size from by rw [World.size_alloc]; omega)
  have hs1 := World.size_alloc w (.cells #[.int .i64 a, .slice A l.length c, .int .i64 f] 24)
  have e0 : ((w.alloc (.cells #[.int .i64 a, .slice A l.length c, .int .i64 f] 24)).alloc zSrc).heap[w.heap.size]? = some (.cells #[.int .i64 a, .slice A l.length c, .int .i64 f] 24 (0, 0)) := blk_alloc (heap_alloc_new w _) _
  clear hr hc hd hB hcb hb hs hat hsf
  go_enter Try.func17, Try.ntmps17
  go_upto_region 1 with fail
  rw [hs1] at HZ HG
  change Code.wp _ _ _ _ ((w.alloc (.cells #[.int .i64 a, .slice A l.length c, .int .i64 f] 24)).alloc zSrc)
  generalize (w.alloc (.cells #[.int .i64 a, .slice A l.length c, .int .i64 f] 24)).alloc zSrc = W0 at HB HR HBB HZ e0 ⊢
  have HE := Aside0.mk e0
  have c0 := (blk_cell e0 0).trans rfl
  have c1 := (blk_cell e0 1).trans rfl
  have c2 := (blk_cell e0 2).trans rfl
  generalize w.heap.size + 1 = g2 at HZ HG ⊢
  clear e0 hs1
  go_upto_region 3 with (first | (go_at_call 16; (with_reducible refine (impl_SourceOk.calls (l.length + 1) a A c l f true _ HR.out HC.out q1).mono ?_); rintro e w' ⟨rfl, hb⟩; have HW := Aside0.mk hb; clear hb) | (go_at_call 36; (with_reducible refine (impl_within.calls at_ 0 60000 true _ q2).mono ?_); rintro e w' ⟨rfl, ⟨nd, rfl⟩⟩))
  have HW1 := Aside0.mk (pw_below_drewN HW.out nd)
  have HB1 := Aside0.mk (below_step HB.out HW1.out)
  have HR1 := Aside0.mk (Kd.C_below HR.out HW1.out)
  have HBB1 := Aside0.mk (Kd.C_below HBB.out HW1.out)
  have HZ1 := Aside0.mk ((HW1.out.block _ (blk_lt HZ.out)).trans HZ.out)
  have HE1 := Aside0.mk ((HW1.out.block _ (blk_lt HE.out)).trans HE.out)
  clear HB HR HBB HZ HE HW HW1 c0 c1 c2
  generalize w'.drewN nd = W1 at HB1 HR1 HBB1 HZ1 HE1 ⊢
  have c0 := (blk_cell HE1.out 0).trans rfl
  have c1 := (blk_cell HE1.out 1).trans rfl
  have c2 := (blk_cell HE1.out 2).trans rfl
  go_upto_region 4 with (go_at_call 33; (with_reducible refine (copySource_c a f A c l W1 HR1.out (by have := HT.out.1.2.2.1; omega) HD.out).mono ?_); rintro e w2 ⟨v2, rfl, hS2, hb2⟩; obtain ⟨A2, n2, e2⟩ := Kd.S_slice hS2; subst e2; have HS2 := Aside0.mk hS2; have HW2 := Aside0.mk hb2; clear hS2 hb2)
  have HZ2 := Aside0.mk ((HW2.out.block _ (blk_lt HZ1.out)).trans HZ1.out)
  have hg2 : g2 < w2.heap.size := blk_lt HZ2.out
  have HB3 := Aside0.mk (show Below w.heap.size w (w2.alloc (.cells #[.int .i64 a, .slice A2 l.length n2, .int .i64 f] 24)) from below_alloc (below_step HB1.out HW2.out) _)
  have HS3 := Aside0.mk (show SSt w.heap.size (fun k => k ≠ g2) (w2.alloc (.cells #[.int .i64 a, .slice A2 l.length n2, .int .i64 f] 24)) w2.heap.size a l f from ⟨A2, n2, heap_alloc_new w2 _, Kd.S_alloc (Kd.S_mono (Kd.S_types (Kd.S_lower HS2.out HB1.out.size) HZ2.out (by decide)) (fun _ hk => hk.2)) _⟩)
  have HBB3 := Aside0.mk (show Kd.C (Kd.int .u8) (w2.alloc (.cells #[.int .i64 a, .slice A2 l.length n2, .int .i64 f] 24)) B b.length b from Kd.C_alloc (Kd.C_below HBB1.out HW2.out) _)
  have HZ3 := Aside0.mk (show (w2.alloc (.cells #[.int .i64 a, .slice A2 l.length n2, .int .i64 f] 24)).heap[g2]? = some zSrc from blk_alloc HZ2.out _)
  have HN3 := Aside0.mk (show w.heap.size ≤ w2.heap.size ∧ g2 ≠ w2.heap.size ∧ g2 < (w2.alloc (.cells #[.int .i64 a, .slice A2 l.length n2, .int .i64 f] 24)).heap.size from ⟨(below_step HB1.out HW2.out).size, by omega, by rw [World.size_alloc]; omega⟩)
  clear HB1 HR1 HBB1 HZ1 HE1 HS2 HW2 HZ2 hg2 c0 c1 c2
  generalize w2.alloc (.cells #[.int .i64 a, .slice A2 l.length n2, .int .i64 f] 24) = W3 at HB3 HS3 HBB3 HZ3 HN3 ⊢
  generalize w2.heap.size = g8 at HS3 HN3 ⊢
  go_upto_region 5 with (go_at_call 34; (with_reducible refine (fetch_c w.heap.size g8 (fun k => k ≠ g2) a f l B cb b at_ W3 HB3.out.size HS3.out HN3.out.1 (fun k hk he => by have := HN3.out.2.2; omega) HBB3.out HCB.out ⟨HT.out.1.1, HT.out.1.2.1⟩ HT.out.2 HT.out.1.2.2.1 HT.out.1.2.2.2 (by have := HLB.out; omega)).mono ?_); rintro e w4 ⟨rfl, hS4, hb4, hk4⟩; have HS4 := Aside0.mk hS4; have HB4 := Aside0.mk (HB3.out.trans hb4); have HZ4 := Aside0.mk ((hk4.2 g2 HN3.out.2.2 (by rintro (h | h); exact h rfl; exact HN3.out.2.1 h)).trans HZ3.out); clear hS4 hb4 hk4)
  obtain ⟨A4, n4, _, k0, k1, k2, _, hS5⟩ := HS4.out.cells
  have HS5 := Aside0.mk hS5
  have z0 := (blk_cell HZ4.out 0).trans rfl
  have z1 := (blk_cell HZ4.out 1).trans rfl
  have z2 := (blk_cell HZ4.out 2).trans rfl
  have f0 := blk_frozen HZ4.out 0
  have f1 := blk_frozen HZ4.out 1
  have f2 := blk_frozen HZ4.out 2
  clear hS5
  go_wp2
  refine bodyPost_ret (results_ct rfl _ _ g2 24 #[.int .i64 a, .slice A4 (bzL a l b at_).length n4, .int .i64 (bzF a l f at_)] (0, 0) _ rfl (by refine blk_put (cs := #[.int .i64 a, .slice A4 (bzL a l b at_).length n4, .int .i64 0]) ?_ 2 _ rfl; refine blk_put (cs := #[.int .i64 a, .slice none 0 0, .int .i64 0]) ?_ 1 _ rfl; refine blk_put (cs := #[.int .i64 0, .slice none 0 0, .int .i64 0]) ?_ 0 _ rfl; exact HZ4.out) Try.underlying24 rfl (by kernel_rfl)) rfl ?_
  exact ⟨_, rfl, Kd.S_mono (S_fill HS5.out HZ4.out _ _ _) (fun _ _ => trivial), below_set (below_set (below_set HB4.out HG.out) HG.out) HG.out⟩
theorem SourceByte_c (a f : Int) (A : Option Addr) (c : Nat) (l : List S58) (B : Option Addr) (cb : Nat) (b : List Int) (at_ : Int) (w : World) (hr : Kd.C k58 w A l.length l) (hc : l.length ≤ c) (hl : l.length ≤ 1048576) (hd : ∀ x ∈ l, x.f1.length ≤ 1048576) (hB : Kd.C (Kd.int .u8) w B b.length b) (hcb : b.length ≤ cb) (hb : b.length ≤ 1048576) :
    Calls Try.prog 17 #[.agg #[.int .i64 a, .slice A l.length c, .int .i64 f], .slice B b.length cb, .int .i64 at_] w fun e w' => ∃ v, e = .returned (.tuple #[.agg #[.int .i64 (byS a l f at_), v, .int .i64 (byF a l f at_)], .int .i64 (byX a l f b at_)]) ∧ Kd.S k58 58 w' w.heap.size (fun _ => True) v (byL a l f b at_) ∧ Below w.heap.size w w' := by
  by_cases ho : byOk a l f at_ = true
  · refine (SourceByte_yes a f A c l B cb b at_ w hr hc hd hB hcb hb ho).mono ?_
    rintro e w' ⟨v, rfl, h⟩
    refine ⟨v, ?_, ?_⟩
    · simp only [byS, byF, byX, if_pos ho]
    · rw [byL, if_pos ho]; exact h
  · have ho' : byOk a l f at_ = false := by simpa using ho
    refine (SourceByte_no a f A c l B cb b at_ w hr hc hl ho').mono ?_
    rintro e w' ⟨rfl, h⟩
    refine ⟨.slice none 0 0, ?_, ?_, h⟩
    · simp only [byS, byF, byX, if_neg ho]
    · rw [byL, if_neg ho]; exact Kd.S_nil _ _ _ _ _

end Go.Proofs.Ytbjkaapkmemojaa.PFnSource
