/- For every text of at most 2^20 bytes and all other arguments, the program's EndAt answers as the reference's does; no condition beyond the statement's own. -/
import Derived.Test.YtopgcllcmgkibaaPFnExactEndAtx0
import Derived.Test.YtopgcllcmgkibaaPFnExactEndAtx1
import Derived.Test.YtopgcllcmgkibaaIx
import Derived.Test.YtopgcllcmgkibaaMine
import Derived.Test.YtopgcllcmgkibaaTxt
namespace Go.Proofs.Ytopgcllcmgkibaa.Pure
open Go.RowKit Go.Proofs.Ytopgcllcmgkibaa.PFnExactEndAt Go.Proofs.YtopgcllcmgkibaaW.PrintWords Go.Proofs.YtopgcllcmgkibaaW.PrintLast Go.Proofs.YtopgcllcmgkibaaW.PrintMore Go.Proofs.Ytopgcllcmgkibaa.Mine

theorem spec_l01P_ok (s : ByteArray) (p : Int) : spec_l01P.f s p = some (spotM s p) := by
  unfold spec_l01P.f spotM
  split
  · rfl
  · split <;> rfl

theorem spec_EndAt_l0 (s : ByteArray) (hs : s.size ≤ 140737488351232) (d : Nat) : ∀ (k : Nat) (i : Int), 0 ≤ i → i ≤ s.size → s.size - i ≤ d → d < k →
    spec_EndAt.l0 k s i = some (upto isLf s i) := by
  induction d with
  | zero =>
    intro k i h0 h1 hd hk
    obtain ⟨k, rfl⟩ : ∃ m, k = m + 1 := ⟨k - 1, by omega⟩
    simp (disch := omega) only [spec_EndAt.l0, if_neg, upto_end]
  | succ d ih =>
    intro k i h0 h1 hd hk
    obtain ⟨k, rfl⟩ : ∃ m, k = m + 1 := ⟨k - 1, by omega⟩
    by_cases hi : i < s.size
    · by_cases hb : bt s i = 10
      · rw [upto_hit hi (isLf_iff.mpr hb)]
        simp (disch := omega) only [spec_EndAt.l0, if_pos, if_neg]
      · rw [upto_next hi (isLf_not.mpr hb)]
        simp (disch := omega) only [spec_EndAt.l0, if_pos, if_neg, w64]
        exact ih k (i + 1) (by omega) (by omega) (by omega) (by omega)
    · simp (disch := omega) only [spec_EndAt.l0, if_neg, upto_end]
theorem spec_EndAt_ok (s : ByteArray) (p : Int) (hs : s.size ≤ 140737488351232) (k : Nat) (hk : s.size < k) : spec_EndAt.f k s p = some (endM s p) := by
  have h0 := spotM_lo s p
  have h1 := spotM_hi s p
  simp only [spec_EndAt.f, spec_l01P_ok, Option.bind_some]
  exact spec_EndAt_l0 s hs s.size k _ h0 h1 (by omega) hk

theorem impl_spot_ok (s : ByteArray) (p : Int) : impl_spot.f s p = some (spotM s p) := by
  unfold impl_spot.f; rw [mn_mx_spotM]

theorem impl_EndAt_ok (s : ByteArray) (p : Int) (hs : s.size ≤ 140737488351232) : impl_EndAt.f s p = some (endM s p) := by
  have h0 := spotM_lo s p
  have h1 := spotM_hi s p
  simp only [impl_EndAt.f, impl_spot_ok, Option.bind_some]
  rw [if_pos h0, if_pos h1]
  simp only [strings_IndexByte.f, Option.bind_some]
  obtain ⟨r, hr⟩ : ∃ r, Lib.indexByte (s.extract (spotM s p).toNat s.size).data.toList (10 : Int).toNat.toUInt8 = r := ⟨_, rfl⟩
  obtain ⟨a, b, c⟩ := ix_ext h0 h1 hr
  rw [hr]
  unfold endM
  rw [← c]
  by_cases h : r < 0
  · rw [if_pos h, if_pos h]
  · rw [if_neg h, if_neg h, w64 (by omega) (by omega)]

theorem FnExactEndAt : laws_FnExactEndAt.Pure := by
  intro s p hs hp
  by_cases h : (s.size : Int) > 1048576
  · exact ⟨0, by simp only [laws_FnExactEndAt.f, if_pos h]⟩
  · refine ⟨s.size + 100, ?_⟩
    simp (disch := omega) only [laws_FnExactEndAt.f, if_neg, spec_EndAt_ok, impl_EndAt_ok, Option.bind_some, if_true]

end Go.Proofs.Ytopgcllcmgkibaa.Pure
