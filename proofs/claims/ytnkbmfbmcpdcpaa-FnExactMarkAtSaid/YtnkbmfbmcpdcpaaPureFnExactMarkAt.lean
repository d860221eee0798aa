/- The statement FnExactMarkAt, for every input. -/
import Derived.Test.YtnkbmfbmcpdcpaaPFnExactMarkAtx0
import Derived.Test.YtnkbmfbmcpdcpaaPFnExactMarkAtx1
import Derived.Test.YtnkbmfbmcpdcpaaPFnExactMarkAtx2
import Derived.Test.YtnkbmfbmcpdcpaaMine
namespace Go.Proofs.Ytnkbmfbmcpdcpaa.Pure
open Go.RowKit Go.Proofs.Ytnkbmfbmcpdcpaa.PFnExactMarkAt Go.Proofs.YtnkbmfbmcpdcpaaW.PrintWords Go.Proofs.YtnkbmfbmcpdcpaaW.PrintLast Go.Proofs.YtnkbmfbmcpdcpaaW.PrintMore Go.Proofs.Ytnkbmfbmcpdcpaa.Mine

theorem spec_l01P_ok (s : ByteArray) (p : Int) : spec_l01P.f s p = some (spotM s p) := by
  unfold spec_l01P.f spotM
  split
  · rfl
  · split <;> rfl

theorem spec_LineAt_l0 (s : ByteArray) (hs : s.size ≤ 140737488351232) (d : Nat) : ∀ (k : Nat) (i : Int), 0 ≤ i → i ≤ s.size → i ≤ d → d < k →
    spec_LineAt.l0 k s i = some (lastM 10 s i) := by
  induction d with
  | zero =>
    intro k i h0 h1 hd hk
    obtain ⟨k, rfl⟩ : ∃ m, k = m + 1 := ⟨k - 1, by omega⟩
    simp (disch := omega) only [spec_LineAt.l0, if_neg, lastM_neg]
    congr 1; omega
  | succ d ih =>
    intro k i h0 h1 hd hk
    obtain ⟨k, rfl⟩ : ∃ m, k = m + 1 := ⟨k - 1, by omega⟩
    by_cases hi : 0 < i
    · by_cases hb : bt s (i - 1) = 10
      · simp (disch := omega) only [spec_LineAt.l0, if_pos, w64, lastM_hit]
      · simp (disch := omega) only [spec_LineAt.l0, if_pos, if_neg, w64, lastM_prev]
        exact ih k (i - 1) (by omega) (by omega) (by omega) (by omega)
    · simp (disch := omega) only [spec_LineAt.l0, if_neg, lastM_neg]
      congr 1; omega
theorem spec_LineAt_ok (s : ByteArray) (p : Int) (hs : s.size ≤ 140737488351232) (k : Nat) (hk : s.size < k) : spec_LineAt.f k s p = some (lineM s p) := by
  have h0 := spotM_lo s p
  have h1 := spotM_hi s p
  simp only [spec_LineAt.f, spec_l01P_ok, Option.bind_some]
  exact spec_LineAt_l0 s hs s.size k _ h0 h1 h1 hk

theorem spec_l03Break_ok (s : ByteArray) (p : Int) (h0 : 0 ≤ p) : spec_l03Break.f s p = some (brB (byteM s p)) := by
  unfold spec_l03Break.f
  by_cases h : p < s.size
  · rw [if_neg (by omega), if_pos h0, if_pos h, byteM_in h0 h]
    have := bt_lo s p
    by_cases h10 : bt s p = 10
    · rw [h10]; rfl
    · rw [brB_not.mpr (by omega)]; simp [h10]
  · rw [if_pos (by omega), byteM_end (by omega)]; rfl

theorem spec_l03White_in (s : ByteArray) (p : Int) (h0 : 0 ≤ p) (h1 : p < s.size) : spec_l03White.f s p = some (whB (bt s p)) := by
  simp (disch := omega) only [spec_l03White.f, if_pos]
  by_cases h : bt s p = 32
  · rw [if_pos h, whB_iff.mpr (.inl h)]
  · rw [if_neg h]
    by_cases h9 : bt s p = 9
    · rw [h9]; rfl
    · rw [whB_not.mpr (by omega)]; simp [h9]
theorem spec_l03White_end (s : ByteArray) (p : Int) (h1 : (s.size : Int) ≤ p) : spec_l03White.f s p = some false := by
  simp (disch := omega) only [spec_l03White.f, if_neg]
theorem spec_l03White_ok (s : ByteArray) (p : Int) (h0 : 0 ≤ p) : spec_l03White.f s p = some (whB (byteM s p)) := by
  by_cases h : p < s.size
  · rw [spec_l03White_in s p h0 h, byteM_in h0 h]
  · rw [spec_l03White_end s p (by omega), byteM_end (by omega)]; rfl

theorem spec_l03Gap_ok (s : ByteArray) (p : Int) (h0 : 0 ≤ p) : spec_l03Gap.f s p = some (gapB (byteM s p)) := by
  simp only [spec_l03Gap.f, spec_l03White_ok s p h0, spec_l03Break_ok s p h0, Option.bind_some, gapB_eq]
  cases whB (byteM s p) <;> rfl

theorem spec_MarkAt_ok (s : ByteArray) (p : Int) (hs : s.size ≤ 140737488351232) (k : Nat) (hk : s.size + 1 < k) : spec_MarkAt.f k s p = some (markM s p) := by
  have h0 := spotM_lo s p
  have h1 := spotM_hi s p
  obtain ⟨k, rfl⟩ : ∃ m, k = m + 1 := ⟨k - 1, by omega⟩
  simp (disch := omega) only [spec_MarkAt.f, spec_l01P_ok, spec_LineAt_ok, Option.bind_some, markM]
  generalize spotM s p = q at h0 h1 ⊢
  have jt : spec_MarkAt.j0 (k + 1) s q true = some 0 := by simp only [spec_MarkAt.j0, if_true]
  by_cases hl : lineM s q = q
  · rw [if_pos hl, w64 (by omega) (by omega)]
    by_cases h3 : (s.size : Int) - q < 3
    · rw [if_pos h3, jt, if_neg (by omega)]
    · rw [if_neg h3]
      simp (disch := omega) only [w64, spec_l03Gap_ok, Option.bind_some]
      cases hg : gapB (byteM s (q + 3)) with
      | false => rw [show (!false) = true from rfl, jt, if_neg (by simp)]
      | true =>
        rw [show (!true) = false from rfl, if_pos ⟨hl, by omega, rfl⟩]
        simp (disch := omega) only [spec_MarkAt.j0, Bool.false_eq_true, if_false, w64]
        rw [if_pos h0, if_pos (by omega), if_pos (by omega)]
        split
        · rfl
        · split <;> rfl
  · rw [if_neg hl, jt, if_neg (fun h => hl h.1)]

theorem impl_spot_ok (s : ByteArray) (p : Int) : impl_spot.f s p = some (spotM s p) := by
  unfold impl_spot.f; rw [mn_mx_spotM]

theorem bytealg_LastIndexByteString_l0 (s : ByteArray) (c : Int) (hs : s.size ≤ 140737488351232) (d : Nat) : ∀ (k : Nat) (i : Int), -1 ≤ i → i < s.size → i < d → d < k →
    bytealg_LastIndexByteString.l0 k s c i = some (lastM c s (i + 1) - 1) := by
  induction d with
  | zero =>
    intro k i h0 h1 hd hk
    obtain ⟨k, rfl⟩ : ∃ m, k = m + 1 := ⟨k - 1, by omega⟩
    simp (disch := omega) only [bytealg_LastIndexByteString.l0, if_neg, lastM_neg]
    rfl
  | succ d ih =>
    intro k i h0 h1 hd hk
    obtain ⟨k, rfl⟩ : ∃ m, k = m + 1 := ⟨k - 1, by omega⟩
    by_cases hi : 0 ≤ i
    · by_cases hb : bt s i = c
      · have hb' : bt s (i + 1 - 1) = c := by rw [show i + 1 - 1 = i by omega]; exact hb
        rw [lastM_hit (by omega) hb']
        simp (disch := omega) only [bytealg_LastIndexByteString.l0, if_pos]
        congr 1; omega
      · have hb' : ¬ bt s (i + 1 - 1) = c := by rw [show i + 1 - 1 = i by omega]; exact hb
        rw [lastM_prev (by omega) hb']
        simp (disch := omega) only [bytealg_LastIndexByteString.l0, if_pos, if_neg, w64]
        rw [ih k (i - 1) (by omega) (by omega) (by omega) (by omega)]
        rw [show i + 1 - 1 = i - 1 + 1 by omega]
    · simp (disch := omega) only [bytealg_LastIndexByteString.l0, if_neg, lastM_neg]
      rfl
theorem bytealg_LastIndexByteString_ok (s : ByteArray) (c : Int) (hs : s.size ≤ 140737488351232) (k : Nat) (hk : s.size < k) :
    bytealg_LastIndexByteString.f k s c = some (lastM c s s.size - 1) := by
  unfold bytealg_LastIndexByteString.f
  rw [w64 (by omega) (by omega), bytealg_LastIndexByteString_l0 s c hs s.size k _ (by omega) (by omega) (by omega) hk]
  rw [show (s.size : Int) - 1 + 1 = s.size by omega]

theorem strings_LastIndexByte_ok (s : ByteArray) (c : Int) (hs : s.size ≤ 140737488351232) (k : Nat) (hk : s.size < k) :
    strings_LastIndexByte.f k s c = some (lastM c s s.size - 1) := by
  simp (disch := omega) only [strings_LastIndexByte.f, bytealg_LastIndexByteString_ok, Option.bind_some]

theorem impl_LineAt_ok (s : ByteArray) (p : Int) (hs : s.size ≤ 140737488351232) (k : Nat) (hk : s.size < k) : impl_LineAt.f k s p = some (lineM s p) := by
  have h0 := spotM_lo s p
  have h1 := spotM_hi s p
  have hz : (s.extract 0 (spotM s p).toNat).size = (spotM s p).toNat := by rw [size_ext _ _ _ (by omega)]; omega
  have hl := lastM_lo 10 (s.extract 0 (spotM s p).toNat) ((spotM s p).toNat : Int)
  have hm := lastM_hi (c := 10) (s := s.extract 0 (spotM s p).toNat) (p := ((spotM s p).toNat : Int)) (by omega)
  simp only [impl_LineAt.f, impl_spot_ok, Option.bind_some]
  rw [if_pos h0, if_pos h1, strings_LastIndexByte_ok _ _ (by omega) k (by omega), Option.bind_some, hz, w64 (by omega) (by omega)]
  unfold lineM
  rw [show ((spotM s p).toNat : Int) = spotM s p by omega] at *
  rw [show ∀ x : Int, x - 1 + 1 = x by intro x; omega]
  congr 1
  refine lastM_ext fun i a b => ?_
  rw [bt_ext (by omega) a (by omega)]
  congr 1; omega

theorem impl_isBreak_ok (b : Int) : impl_isBreak.f b = some (brB b) := by
  unfold impl_isBreak.f brB
  by_cases h : b = 10
  · simp [h]
  · rw [if_neg h]; simp [h]

theorem impl_byteAt_ok (s : ByteArray) (p : Int) : impl_byteAt.f s p = some (byteM s p) := by
  have h0 := spotM_lo s p
  have h1 := spotM_hi s p
  have h2 := bt_lo s (spotM s p)
  have h3 := bt_hi s (spotM s p)
  simp only [impl_byteAt.f, impl_spot_ok, Option.bind_some]
  unfold byteM
  by_cases h : spotM s p = (s.size : Int)
  · rw [if_pos h, if_pos h]
  · rw [if_neg h, if_neg h, if_pos h0, if_pos (by omega), w64 (by omega) (by omega)]

theorem impl_isWhite_ok (b : Int) : impl_isWhite.f b = some (whB b) := by
  unfold impl_isWhite.f
  by_cases h : b = 32
  · rw [if_pos h, whB_iff.mpr (.inl h)]
  · rw [if_neg h]
    by_cases h9 : b = 9
    · rw [h9]; rfl
    · rw [whB_not.mpr (by omega)]; simp [h9]

theorem impl_gapAt_ok (s : ByteArray) (p : Int) : impl_gapAt.f s p = some (gapB (byteM s p)) := by
  simp only [impl_gapAt.f, impl_byteAt_ok, impl_isWhite_ok, impl_isBreak_ok, Option.bind_some, gapB_eq]
  cases whB (byteM s p) <;> rfl

theorem impl_MarkAt_ok (s : ByteArray) (p : Int) (hs : s.size ≤ 140737488351232) (k : Nat) (hk : s.size + 1 < k) : impl_MarkAt.f k s p = some (markM s p) := by
  have h0 := spotM_lo s p
  have h1 := spotM_hi s p
  obtain ⟨k, rfl⟩ : ∃ m, k = m + 1 := ⟨k - 1, by omega⟩
  simp (disch := omega) only [impl_MarkAt.f, impl_spot_ok, impl_LineAt_ok, Option.bind_some, markM]
  generalize spotM s p = q at h0 h1 ⊢
  have jt : impl_MarkAt.j0 (k + 1) s q true = some 0 := by simp only [impl_MarkAt.j0, if_true]
  by_cases hl : lineM s q = q
  · rw [if_pos hl, w64 (by omega) (by omega)]
    by_cases h3 : (s.size : Int) - q < 3
    · rw [if_pos h3, jt, if_neg (by omega)]
    · rw [if_neg h3]
      simp (disch := omega) only [w64, impl_gapAt_ok, Option.bind_some]
      cases hg : gapB (byteM s (q + 3)) with
      | false => rw [show (!false) = true from rfl, jt, if_neg (by simp)]
      | true =>
        rw [show (!true) = false from rfl, if_pos ⟨hl, by omega, rfl⟩]
        simp (disch := omega) only [impl_MarkAt.j0, Bool.false_eq_true, if_false, w64]
        rw [if_pos h0, if_pos (by omega), if_pos (by omega)]
        split
        · rfl
        · split <;> rfl
  · rw [if_neg hl, jt, if_neg (fun h => hl h.1)]

theorem FnExactMarkAt : laws_FnExactMarkAt.Pure := by
  intro s p hs hp
  by_cases h : (s.size : Int) > 1048576
  · exact ⟨0, by simp only [laws_FnExactMarkAt.f, if_pos h]⟩
  · refine ⟨s.size + 100, ?_⟩
    simp (disch := omega) only [laws_FnExactMarkAt.f, if_neg, spec_MarkAt_ok, impl_MarkAt_ok, Option.bind_some, if_true]

end Go.Proofs.Ytnkbmfbmcpdcpaa.Pure
