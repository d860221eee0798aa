/- For every text of at most 2^20 bytes and every place, the program's White answers as the reference's does; no condition beyond the statement's own. -/
import Derived.Test.YtopgcllcmgkibaaPFnExactWhitex0
import Derived.Test.YtopgcllcmgkibaaPFnExactWhitex1
import Derived.Test.YtopgcllcmgkibaaMine
namespace Go.Proofs.Ytopgcllcmgkibaa.Pure
open Go.RowKit Go.Proofs.Ytopgcllcmgkibaa.PFnExactWhite Go.Proofs.YtopgcllcmgkibaaW.PrintWords Go.Proofs.YtopgcllcmgkibaaW.PrintLast Go.Proofs.YtopgcllcmgkibaaW.PrintMore Go.Proofs.Ytopgcllcmgkibaa.Mine

theorem spec_l01P_ok (s : ByteArray) (p : Int) : spec_l01P.f s p = some (spotM s p) := by
  unfold spec_l01P.f spotM
  split
  · rfl
  · split <;> rfl

theorem spec_l03White_in (s : ByteArray) (p : Int) (h0 : 0 ≤ p) (h1 : p < s.size) : spec_l03White.f s p = some (whB (bt s p)) := by
  simp (disch := omega) only [spec_l03White.f, if_pos]
  by_cases h : bt s p = 32
  · rw [if_pos h, whB_iff.mpr (.inl h)]
  · rw [if_neg h]
    by_cases h9 : bt s p = 9
    · rw [h9]; rfl
    · rw [whB_not.mpr (by omega)]; simp [h9]
theorem spec_l03White_end (s : ByteArray) (p : Int) (h1 : (s.size : Int) ≤ p) : spec_l03White.f s p = some false := by
  simp (disch := omega) only [spec_l03White.f, if_neg]
theorem spec_l03White_ok (s : ByteArray) (p : Int) (h0 : 0 ≤ p) : spec_l03White.f s p = some (whB (byteM s p)) := by
  by_cases h : p < s.size
  · rw [spec_l03White_in s p h0 h, byteM_in h0 h]
  · rw [spec_l03White_end s p (by omega), byteM_end (by omega)]; rfl

theorem spec_White_l0 (s : ByteArray) (hs : s.size ≤ 140737488351232) (d : Nat) : ∀ (k : Nat) (i : Int), 0 ≤ i → i ≤ s.size → s.size - i ≤ d → d < k →
    spec_White.l0 k s i = some (upto noWh s i) := by
  induction d with
  | zero =>
    intro k i h0 h1 hd hk
    obtain ⟨k, rfl⟩ : ∃ m, k = m + 1 := ⟨k - 1, by omega⟩
    simp (disch := omega) only [spec_White.l0, spec_l03White_end, Option.bind_some, Bool.false_eq_true, if_false, upto_end]
  | succ d ih =>
    intro k i h0 h1 hd hk
    obtain ⟨k, rfl⟩ : ∃ m, k = m + 1 := ⟨k - 1, by omega⟩
    by_cases hi : i < s.size
    · simp (disch := omega) only [spec_White.l0, spec_l03White_in, Option.bind_some]
      by_cases hb : whB (bt s i) = true
      · rw [if_pos hb, upto_next hi (by simp [noWh, hb]), w64 (by omega) (by omega)]
        exact ih k (i + 1) (by omega) (by omega) (by omega) (by omega)
      · rw [if_neg hb, upto_hit hi (by simpa [noWh] using hb)]
    · simp (disch := omega) only [spec_White.l0, spec_l03White_end, Option.bind_some, Bool.false_eq_true, if_false, upto_end]
theorem spec_White_ok (s : ByteArray) (p : Int) (hs : s.size ≤ 140737488351232) (k : Nat) (hk : s.size < k) : spec_White.f k s p = some (whiteM s p) := by
  have h0 := spotM_lo s p
  have h1 := spotM_hi s p
  simp only [spec_White.f, spec_l01P_ok, Option.bind_some]
  exact spec_White_l0 s hs s.size k _ h0 h1 (by omega) hk

theorem impl_spot_ok (s : ByteArray) (p : Int) : impl_spot.f s p = some (spotM s p) := by
  unfold impl_spot.f; rw [mn_mx_spotM]

theorem impl_isWhite_ok (b : Int) : impl_isWhite.f b = some (whB b) := by
  unfold impl_isWhite.f
  by_cases h : b = 32
  · rw [if_pos h, whB_iff.mpr (.inl h)]
  · rw [if_neg h]
    by_cases h9 : b = 9
    · rw [h9]; rfl
    · rw [whB_not.mpr (by omega)]; simp [h9]

theorem impl_byteAt_ok (s : ByteArray) (p : Int) : impl_byteAt.f s p = some (byteM s p) := by
  have h0 := spotM_lo s p
  have h1 := spotM_hi s p
  have h2 := bt_lo s (spotM s p)
  have h3 := bt_hi s (spotM s p)
  simp only [impl_byteAt.f, impl_spot_ok, Option.bind_some]
  unfold byteM
  by_cases h : spotM s p = (s.size : Int)
  · rw [if_pos h, if_pos h]
  · rw [if_neg h, if_neg h, if_pos h0, if_pos (by omega), w64 (by omega) (by omega)]

theorem impl_White_l0 (s : ByteArray) (hs : s.size ≤ 140737488351232) (d : Nat) : ∀ (k : Nat) (i : Int), 0 ≤ i → i ≤ s.size → s.size - i ≤ d → d < k →
    impl_White.l0 k s i = some (upto noWh s i) := by
  induction d with
  | zero =>
    intro k i h0 h1 hd hk
    obtain ⟨k, rfl⟩ : ∃ m, k = m + 1 := ⟨k - 1, by omega⟩
    simp (disch := omega) only [impl_White.l0, impl_byteAt_ok, byteM_end, impl_isWhite_ok, Option.bind_some, upto_end]
    rfl
  | succ d ih =>
    intro k i h0 h1 hd hk
    obtain ⟨k, rfl⟩ : ∃ m, k = m + 1 := ⟨k - 1, by omega⟩
    by_cases hi : i < s.size
    · simp (disch := omega) only [impl_White.l0, impl_byteAt_ok, byteM_in, impl_isWhite_ok, Option.bind_some]
      by_cases hb : whB (bt s i) = true
      · rw [if_pos hb, upto_next hi (by simp [noWh, hb]), w64 (by omega) (by omega)]
        exact ih k (i + 1) (by omega) (by omega) (by omega) (by omega)
      · rw [if_neg hb, upto_hit hi (by simpa [noWh] using hb)]
    · simp (disch := omega) only [impl_White.l0, impl_byteAt_ok, byteM_end, impl_isWhite_ok, Option.bind_some, upto_end]
      rfl
theorem impl_White_ok (s : ByteArray) (p : Int) (hs : s.size ≤ 140737488351232) (k : Nat) (hk : s.size < k) : impl_White.f k s p = some (whiteM s p) := by
  have h0 := spotM_lo s p
  have h1 := spotM_hi s p
  simp only [impl_White.f, impl_spot_ok, Option.bind_some]
  exact impl_White_l0 s hs s.size k _ h0 h1 (by omega) hk

theorem FnExactWhite : laws_FnExactWhite.Pure := by
  intro s p hs hp
  by_cases h : (s.size : Int) > 1048576
  · exact ⟨0, by simp only [laws_FnExactWhite.f, if_pos h]⟩
  · refine ⟨s.size + 100, ?_⟩
    simp (disch := omega) only [laws_FnExactWhite.f, if_neg, spec_White_ok, impl_White_ok, Option.bind_some, if_true]

end Go.Proofs.Ytopgcllcmgkibaa.Pure
