/- For every text of at most 2^20 bytes and all other arguments, the program's TagAt answers as the reference's does; no condition beyond the statement's own. -/
import Derived.Test.YtnkbmfbmcpdcpaaPFnExactTagAtx0
import Derived.Test.YtnkbmfbmcpdcpaaPFnExactTagAtx1
import Derived.Test.YtnkbmfbmcpdcpaaPFnExactTagAtx2
import Derived.Test.YtnkbmfbmcpdcpaaMine
namespace Go.Proofs.Ytnkbmfbmcpdcpaa.Pure
open Go.RowKit Go.Proofs.Ytnkbmfbmcpdcpaa.PFnExactTagAt Go.Proofs.YtnkbmfbmcpdcpaaW.PrintWords Go.Proofs.YtnkbmfbmcpdcpaaW.PrintLast Go.Proofs.YtnkbmfbmcpdcpaaW.PrintMore Go.Proofs.Ytnkbmfbmcpdcpaa.Mine

theorem spec_l01P_ok (s : ByteArray) (p : Int) : spec_l01P.f s p = some (spotM s p) := by
  unfold spec_l01P.f spotM
  split
  · rfl
  · split <;> rfl

theorem spec_l03Break_ok (s : ByteArray) (p : Int) (h0 : 0 ≤ p) : spec_l03Break.f s p = some (brB (byteM s p)) := by
  unfold spec_l03Break.f
  by_cases h : p < s.size
  · rw [if_neg (by omega), if_pos h0, if_pos h, byteM_in h0 h]
    have := bt_lo s p
    by_cases h10 : bt s p = 10
    · rw [h10]; rfl
    · rw [brB_not.mpr (by omega)]; simp [h10]
  · rw [if_pos (by omega), byteM_end (by omega)]; rfl

theorem spec_l03White_in (s : ByteArray) (p : Int) (h0 : 0 ≤ p) (h1 : p < s.size) : spec_l03White.f s p = some (whB (bt s p)) := by
  simp (disch := omega) only [spec_l03White.f, if_pos]
  by_cases h : bt s p = 32
  · rw [if_pos h, whB_iff.mpr (.inl h)]
  · rw [if_neg h]
    by_cases h9 : bt s p = 9
    · rw [h9]; rfl
    · rw [whB_not.mpr (by omega)]; simp [h9]
theorem spec_l03White_end (s : ByteArray) (p : Int) (h1 : (s.size : Int) ≤ p) : spec_l03White.f s p = some false := by
  simp (disch := omega) only [spec_l03White.f, if_neg]
theorem spec_l03White_ok (s : ByteArray) (p : Int) (h0 : 0 ≤ p) : spec_l03White.f s p = some (whB (byteM s p)) := by
  by_cases h : p < s.size
  · rw [spec_l03White_in s p h0 h, byteM_in h0 h]
  · rw [spec_l03White_end s p (by omega), byteM_end (by omega)]; rfl

theorem spec_l03Gap_ok (s : ByteArray) (p : Int) (h0 : 0 ≤ p) : spec_l03Gap.f s p = some (gapB (byteM s p)) := by
  simp only [spec_l03Gap.f, spec_l03White_ok s p h0, spec_l03Break_ok s p h0, Option.bind_some, gapB_eq]
  cases whB (byteM s p) <;> rfl

theorem spec_l04Flow_ok (b : Int) : spec_l04Flow.f b = some (flB b) := by
  unfold spec_l04Flow.f flB
  by_cases h1 : b = 44
  · simp [h1]
  · by_cases h2 : b = 91
    · simp [h2]
    · by_cases h3 : b = 93
      · simp [h3]
      · by_cases h4 : b = 123
        · simp [h4]
        · by_cases h5 : b = 125
          · simp [h5]
          · simp [h1, h2, h3, h4, h5]

theorem spec_l04Stretch_l0 (s : ByteArray) (hs : s.size ≤ 140737488351232) (d : Nat) : ∀ (k : Nat) (i : Int), 0 ≤ i → s.size - i ≤ d → d < k →
    spec_l04Stretch.l0 k s i = some (upto stB s i) := by
  induction d with
  | zero =>
    intro k i h0 hd hk
    obtain ⟨k, rfl⟩ : ∃ m, k = m + 1 := ⟨k - 1, by omega⟩
    simp (disch := omega) only [spec_l04Stretch.l0, spec_l03Gap_ok, byteM_end, gap_end, Option.bind_some, if_true, upto_end]
  | succ d ih =>
    intro k i h0 hd hk
    obtain ⟨k, rfl⟩ : ∃ m, k = m + 1 := ⟨k - 1, by omega⟩
    by_cases hi : i < s.size
    · simp (disch := omega) only [spec_l04Stretch.l0, spec_l03Gap_ok, byteM_in, Option.bind_some]
      cases hg : gapB (bt s i) with
      | true => rw [if_pos rfl, upto_hit hi (stB_gap hg)]
      | false =>
        rw [if_neg (by decide), if_pos h0, if_pos hi, spec_l04Flow_ok, Option.bind_some]
        cases hf : flB (bt s i) with
        | true => rw [if_pos rfl, upto_hit hi (stB_fl hf)]
        | false =>
          rw [if_neg (by decide), upto_next hi (stB_no hg hf), w64 (by omega) (by omega)]
          exact ih k (i + 1) (by omega) (by omega) (by omega)
    · simp (disch := omega) only [spec_l04Stretch.l0, spec_l03Gap_ok, byteM_end, gap_end, Option.bind_some, if_true, upto_end]
theorem spec_l04Stretch_ok (s : ByteArray) (p : Int) (hs : s.size ≤ 140737488351232) (h0 : 0 ≤ p) (k : Nat) (hk : s.size < k) : spec_l04Stretch.f k s p = some (upto stB s p) :=
  spec_l04Stretch_l0 s hs s.size k p h0 (by omega) hk

theorem spec_l04Close_l0 (s : ByteArray) (hs : s.size ≤ 140737488351232) (d : Nat) : ∀ (k : Nat) (i : Int), 0 ≤ i → s.size - i ≤ d → d < k →
    spec_l04Close.l0 k s i = some (if byteM s (upto clB s i) = 62 then upto clB s i + 1 else -1) := by
  induction d with
  | zero =>
    intro k i h0 hd hk
    obtain ⟨k, rfl⟩ : ∃ m, k = m + 1 := ⟨k - 1, by omega⟩
    simp (disch := omega) only [spec_l04Close.l0, spec_l03Gap_ok, byteM_end, gap_end, Option.bind_some, if_true, upto_end]
    rfl
  | succ d ih =>
    intro k i h0 hd hk
    obtain ⟨k, rfl⟩ : ∃ m, k = m + 1 := ⟨k - 1, by omega⟩
    by_cases hi : i < s.size
    · simp (disch := omega) only [spec_l04Close.l0, spec_l03Gap_ok, byteM_in, Option.bind_some]
      by_cases h62 : bt s i = 62
      · have hg : gapB (bt s i) = false := by rw [h62]; rfl
        rw [upto_hit hi (clB_gt h62), hg, if_neg (by decide), if_pos h0, if_pos hi, if_pos h62, byteM_in h0 hi, if_pos h62, w64 (by omega) (by omega)]
      · cases hg : gapB (bt s i) with
        | true => rw [if_pos rfl, upto_hit hi (clB_gap hg), byteM_in h0 hi, if_neg h62]
        | false =>
          rw [if_neg (by decide), if_pos h0, if_pos hi, if_neg h62, upto_next hi (clB_no h62 hg), w64 (by omega) (by omega)]
          exact ih k (i + 1) (by omega) (by omega) (by omega)
    · simp (disch := omega) only [spec_l04Close.l0, spec_l03Gap_ok, byteM_end, gap_end, Option.bind_some, if_true, upto_end]
      rfl
theorem spec_l04Close_ok (s : ByteArray) (p : Int) (hs : s.size ≤ 140737488351232) (h0 : 0 ≤ p) (k : Nat) (hk : s.size < k) : spec_l04Close.f k s p = some (if byteM s (upto clB s p) = 62 then upto clB s p + 1 else -1) :=
  spec_l04Close_l0 s hs s.size k p h0 (by omega) hk

theorem spec_TagAt_cut (s : ByteArray) (q e : Int) (hs : s.size ≤ 140737488351232) (h0 : 0 ≤ q) (he : q ≤ e) (he1 : e ≤ s.size) :
    (if (wrap64 (e - q)) > 60 then (some ((⟨#[]⟩ : ByteArray), (0 : Int), false)) else (if 0 ≤ q then (if q ≤ e then (if e ≤ (s.size : Int) then (some (s.extract (q : Int).toNat (e : Int).toNat, e, true)) else (none)) else (none)) else (none))) = some (tagCut s q e) := by
  rw [w64 (by omega) (by omega), if_pos h0, if_pos he, if_pos he1]
  unfold tagCut
  split <;> rfl
theorem spec_TagAt_cut' (s : ByteArray) (q e : Int) (h0 : 0 ≤ q) (he : q ≤ e) (he1 : e ≤ s.size) :
    (if e - q > 60 then (some ((⟨#[]⟩ : ByteArray), (0 : Int), false)) else (if 0 ≤ q then (if q ≤ e then (if e ≤ (s.size : Int) then (some (s.extract (q : Int).toNat (e : Int).toNat, e, true)) else (none)) else (none)) else (none))) = some (tagCut s q e) := by
  rw [if_pos h0, if_pos he, if_pos he1]
  unfold tagCut
  split <;> rfl
theorem spec_TagAt_ok (s : ByteArray) (p : Int) (hs : s.size ≤ 140737488351232) (k : Nat) (hk : s.size + 2 < k) : spec_TagAt.f k s p = some (tagAtM s p) := by
  have h0 := spotM_lo s p
  have h1 := spotM_hi s p
  obtain ⟨k, rfl⟩ : ∃ m, k = m + 2 := ⟨k - 2, by omega⟩
  simp only [spec_TagAt.f, spec_l01P_ok, Option.bind_some, tagAtM]
  generalize spotM s p = q at h0 h1 ⊢
  by_cases hq : q < s.size
  · rw [if_neg (by omega), if_pos h0, if_pos hq, byteM_in h0 hq]
    by_cases h33 : bt s q = 33
    · rw [show (bt s q != 33) = false by simp [h33], if_pos h33]
      have e0 := upto_ge stB s q
      have e1 := upto_le (P := stB) h1
      simp (disch := omega) only [spec_TagAt.j0, Bool.false_eq_true, if_false, spec_l04Stretch_ok, Option.bind_some, w64]
      by_cases hq1 : q + 1 < s.size
      · rw [if_pos hq1, if_pos (by omega), byteM_in (by omega) hq1]
        by_cases h60 : bt s (q + 1) = 60
        · rw [show (bt s (q + 1) == 60) = true by simp [h60], if_pos h60]
          have r0 := upto_ge clB s (q + 2)
          have r1 := upto_le (P := clB) (s := s) (p := q + 2) (by omega)
          simp (disch := omega) only [spec_TagAt.j1, if_true, spec_l04Close_ok, Option.bind_some, w64]
          unfold tagFin
          have hr : byteM s (upto clB s (q + 2)) = 62 → upto clB s (q + 2) < s.size := fun h => by
            by_cases c : upto clB s (q + 2) < s.size
            · exact c
            · rw [byteM_end (by omega)] at h; omega
          generalize upto clB s (q + 2) = r at r0 r1 hr ⊢
          by_cases c : byteM s r = 62
          · have := hr c
            rw [if_pos c]
            by_cases c2 : r > q + 2
            · rw [if_pos (by omega), if_pos (show byteM s r = 62 ∧ r > q + 2 from ⟨c, c2⟩)]
              exact spec_TagAt_cut' s q (r + 1) h0 (by omega) (by omega)
            · rw [if_neg (by omega), if_neg (show ¬ (byteM s r = 62 ∧ r > q + 2) from fun h => c2 h.2)]
              exact spec_TagAt_cut' s q _ h0 e0 e1
          · rw [if_neg c, if_neg (by omega), if_neg (show ¬ (byteM s r = 62 ∧ r > q + 2) from fun h => c h.1)]
            exact spec_TagAt_cut' s q _ h0 e0 e1
        · rw [show (bt s (q + 1) == 60) = false by simp [h60], if_neg h60]
          simp only [spec_TagAt.j1, Bool.false_eq_true, if_false]
          exact spec_TagAt_cut s q _ hs h0 e0 e1
      · rw [if_neg hq1, byteM_end (by omega), if_neg (by decide)]
        simp only [spec_TagAt.j1, Bool.false_eq_true, if_false]
        exact spec_TagAt_cut s q _ hs h0 e0 e1
    · rw [show (bt s q != 33) = true by simp [h33], if_neg h33]
      simp only [spec_TagAt.j0, if_true]
  · rw [if_pos (by omega), byteM_end (by omega), if_neg (by decide)]
    simp only [spec_TagAt.j0, if_true]

theorem impl_spot_ok (s : ByteArray) (p : Int) : impl_spot.f s p = some (spotM s p) := by
  unfold impl_spot.f; rw [mn_mx_spotM]

theorem impl_byteAt_ok (s : ByteArray) (p : Int) : impl_byteAt.f s p = some (byteM s p) := by
  have h0 := spotM_lo s p
  have h1 := spotM_hi s p
  have h2 := bt_lo s (spotM s p)
  have h3 := bt_hi s (spotM s p)
  simp only [impl_byteAt.f, impl_spot_ok, Option.bind_some]
  unfold byteM
  by_cases h : spotM s p = (s.size : Int)
  · rw [if_pos h, if_pos h]
  · rw [if_neg h, if_neg h, if_pos h0, if_pos (by omega), w64 (by omega) (by omega)]

theorem impl_isBreak_ok (b : Int) : impl_isBreak.f b = some (brB b) := by
  unfold impl_isBreak.f brB
  by_cases h : b = 10
  · simp [h]
  · rw [if_neg h]; simp [h]

theorem impl_isWhite_ok (b : Int) : impl_isWhite.f b = some (whB b) := by
  unfold impl_isWhite.f
  by_cases h : b = 32
  · rw [if_pos h, whB_iff.mpr (.inl h)]
  · rw [if_neg h]
    by_cases h9 : b = 9
    · rw [h9]; rfl
    · rw [whB_not.mpr (by omega)]; simp [h9]

theorem impl_gapAt_ok (s : ByteArray) (p : Int) : impl_gapAt.f s p = some (gapB (byteM s p)) := by
  simp only [impl_gapAt.f, impl_byteAt_ok, impl_isWhite_ok, impl_isBreak_ok, Option.bind_some, gapB_eq]
  cases whB (byteM s p) <;> rfl

theorem impl_isFlow_ok (b : Int) : impl_isFlow.f b = some (flB b) := by
  unfold impl_isFlow.f flB
  by_cases h1 : b = 44
  · simp [h1]
  · by_cases h2 : b = 91
    · simp [h2]
    · by_cases h3 : b = 93
      · simp [h3]
      · by_cases h4 : b = 123
        · simp [h4]
        · by_cases h5 : b = 125
          · simp [h5]
          · simp [h1, h2, h3, h4, h5]

theorem impl_stretch_l0 (s : ByteArray) (hs : s.size ≤ 140737488351232) (d : Nat) : ∀ (k : Nat) (i : Int), 0 ≤ i → s.size - i ≤ d → d < k →
    impl_stretch.l0 k s i = some (upto stB s i) := by
  induction d with
  | zero =>
    intro k i h0 hd hk
    obtain ⟨k, rfl⟩ : ∃ m, k = m + 1 := ⟨k - 1, by omega⟩
    simp (disch := omega) only [impl_stretch.l0, impl_gapAt_ok, byteM_end, gap_end, Option.bind_some, if_true, upto_end]
  | succ d ih =>
    intro k i h0 hd hk
    obtain ⟨k, rfl⟩ : ∃ m, k = m + 1 := ⟨k - 1, by omega⟩
    by_cases hi : i < s.size
    · simp (disch := omega) only [impl_stretch.l0, impl_gapAt_ok, impl_byteAt_ok, impl_isFlow_ok, byteM_in, Option.bind_some]
      cases hg : gapB (bt s i) with
      | true => rw [if_pos rfl, upto_hit hi (stB_gap hg)]
      | false =>
        rw [if_neg (by decide)]
        cases hf : flB (bt s i) with
        | true => rw [if_pos rfl, upto_hit hi (stB_fl hf)]
        | false =>
          rw [if_neg (by decide), upto_next hi (stB_no hg hf), w64 (by omega) (by omega)]
          exact ih k (i + 1) (by omega) (by omega) (by omega)
    · simp (disch := omega) only [impl_stretch.l0, impl_gapAt_ok, byteM_end, gap_end, Option.bind_some, if_true, upto_end]
theorem impl_stretch_ok (s : ByteArray) (p : Int) (hs : s.size ≤ 140737488351232) (h0 : 0 ≤ p) (k : Nat) (hk : s.size < k) : impl_stretch.f k s p = some (upto stB s p) :=
  impl_stretch_l0 s hs s.size k p h0 (by omega) hk

theorem impl_TagAt_cut (s : ByteArray) (q e : Int) (hs : s.size ≤ 140737488351232) (h0 : 0 ≤ q) (he : q ≤ e) (he1 : e ≤ s.size) :
    (if (wrap64 (e - q)) > 60 then (some ((⟨#[]⟩ : ByteArray), (0 : Int), false)) else (if 0 ≤ q then (if q ≤ e then (if e ≤ (s.size : Int) then (some (s.extract (q : Int).toNat (e : Int).toNat, e, true)) else (none)) else (none)) else (none))) = some (tagCut s q e) := by
  rw [w64 (by omega) (by omega), if_pos h0, if_pos he, if_pos he1]
  unfold tagCut
  split <;> rfl
theorem impl_TagAt_j1 (s : ByteArray) (q e r : Int) (hs : s.size ≤ 140737488351232) (h0 : 0 ≤ q) (he : q ≤ e) (he1 : e ≤ s.size) (hr : q + 2 ≤ r) (hr1 : r ≤ s.size) (k : Nat) (hk : 2 ≤ k) : impl_TagAt.j1 k s q e r = some (tagFin s q e r) := by
  obtain ⟨k, rfl⟩ : ∃ m, k = m + 2 := ⟨k - 2, by omega⟩
  simp (disch := omega) only [impl_TagAt.j1, impl_byteAt_ok, Option.bind_some, w64]
  unfold tagFin
  by_cases c : byteM s r = 62
  · have hlt : r < s.size := by
      by_cases d : r < s.size
      · exact d
      · rw [byteM_end (by omega)] at c; omega
    rw [if_pos c]
    by_cases c2 : r > q + 2
    · rw [show decide (r > q + 2) = true by simpa using c2, if_pos (show byteM s r = 62 ∧ r > q + 2 from ⟨c, c2⟩)]
      simp (disch := omega) only [impl_TagAt.j2, if_true]
      rw [w64 (n := r + 1) (by omega) (by omega)]
      exact impl_TagAt_cut s q (r + 1) hs h0 (by omega) (by omega)
    · rw [show decide (r > q + 2) = false by simpa using c2, if_neg (show ¬ (byteM s r = 62 ∧ r > q + 2) from fun h => c2 h.2)]
      simp only [impl_TagAt.j2, Bool.false_eq_true, if_false]
      exact impl_TagAt_cut s q _ hs h0 he he1
  · rw [if_neg c, if_neg (show ¬ (byteM s r = 62 ∧ r > q + 2) from fun h => c h.1)]
    simp only [impl_TagAt.j2, Bool.false_eq_true, if_false]
    exact impl_TagAt_cut s q _ hs h0 he he1
theorem impl_TagAt_l0 (s : ByteArray) (q e : Int) (hs : s.size ≤ 140737488351232) (h0 : 0 ≤ q) (he : q ≤ e) (he1 : e ≤ s.size) (d : Nat) : ∀ (k : Nat) (i : Int), q + 2 ≤ i → i ≤ s.size → s.size - i ≤ d → d + 3 ≤ k →
    impl_TagAt.l0 k s q e i = some (tagFin s q e (upto clB s i)) := by
  induction d with
  | zero =>
    intro k i hi0 hi1 hd hk
    obtain ⟨k, rfl⟩ : ∃ m, k = m + 1 := ⟨k - 1, by omega⟩
    simp (disch := omega) only [impl_TagAt.l0, impl_byteAt_ok, impl_gapAt_ok, byteM_end, gap_end, Option.bind_some, if_true, upto_end]
    rw [if_neg (by decide)]
    exact impl_TagAt_j1 s q e i hs h0 he he1 hi0 hi1 k (by omega)
  | succ d ih =>
    intro k i hi0 hi1 hd hk
    obtain ⟨k, rfl⟩ : ∃ m, k = m + 1 := ⟨k - 1, by omega⟩
    by_cases hi : i < s.size
    · simp (disch := omega) only [impl_TagAt.l0, impl_byteAt_ok, impl_gapAt_ok, byteM_in, Option.bind_some]
      by_cases h62 : bt s i = 62
      · rw [if_pos h62, upto_hit hi (clB_gt h62)]
        exact impl_TagAt_j1 s q e i hs h0 he he1 hi0 hi1 k (by omega)
      · rw [if_neg h62]
        cases hg : gapB (bt s i) with
        | true =>
          rw [if_pos rfl, upto_hit hi (clB_gap hg)]
          exact impl_TagAt_j1 s q e i hs h0 he he1 hi0 hi1 k (by omega)
        | false =>
          rw [if_neg (by decide), upto_next hi (clB_no h62 hg), w64 (by omega) (by omega)]
          exact ih k (i + 1) (by omega) (by omega) (by omega) (by omega)
    · simp (disch := omega) only [impl_TagAt.l0, impl_byteAt_ok, impl_gapAt_ok, byteM_end, gap_end, Option.bind_some, if_true, upto_end]
      rw [if_neg (by decide)]
      exact impl_TagAt_j1 s q e i hs h0 he he1 hi0 hi1 k (by omega)
theorem impl_TagAt_ok (s : ByteArray) (p : Int) (hs : s.size ≤ 140737488351232) (k : Nat) (hk : s.size + 3 ≤ k) : impl_TagAt.f k s p = some (tagAtM s p) := by
  have h0 := spotM_lo s p
  have h1 := spotM_hi s p
  simp only [impl_TagAt.f, impl_spot_ok, impl_byteAt_ok, Option.bind_some, tagAtM]
  generalize spotM s p = q at h0 h1 ⊢
  by_cases h33 : byteM s q = 33
  · rw [if_pos h33, if_pos h33]
    have e0 := upto_ge stB s q
    have e1 := upto_le (P := stB) h1
    simp (disch := omega) only [impl_stretch_ok, Option.bind_some, w64]
    by_cases h60 : byteM s (q + 1) = 60
    · rw [if_pos h60, if_pos h60]
      have hq1 : q + 1 < s.size := by
        by_cases c : q + 1 < s.size
        · exact c
        · rw [byteM_end (by omega)] at h60; omega
      exact impl_TagAt_l0 s q _ hs h0 e0 e1 s.size k (q + 2) (by omega) (by omega) (by omega) hk
    · rw [if_neg h60, if_neg h60]
      have := impl_TagAt_cut s q _ hs h0 e0 e1
      rw [w64 (by omega) (by omega)] at this
      exact this
  · rw [if_neg h33, if_neg h33]

theorem FnExactTagAt : laws_FnExactTagAt.Pure := by
  intro s p hs hp
  by_cases h : (s.size : Int) > 1048576
  · exact ⟨0, by simp only [laws_FnExactTagAt.f, if_pos h]⟩
  · refine ⟨2 * s.size + 100, ?_⟩
    simp (disch := omega) only [laws_FnExactTagAt.f, if_neg, spec_TagAt_ok, impl_TagAt_ok, Option.bind_some, if_true, bne_self_eq_false, Bool.false_eq_true, if_false]

end Go.Proofs.Ytnkbmfbmcpdcpaa.Pure
