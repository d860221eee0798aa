/- The statement FnExactNameAt, for every input. -/
import Derived.Test.YtnkbmfbmcpdcpaaPFnExactNameAtx0
import Derived.Test.YtnkbmfbmcpdcpaaPFnExactNameAtx1
import Derived.Test.YtnkbmfbmcpdcpaaPFnExactNameAtx2
import Derived.Test.YtnkbmfbmcpdcpaaMine
namespace Go.Proofs.Ytnkbmfbmcpdcpaa.Pure
open Go.RowKit Go.Proofs.Ytnkbmfbmcpdcpaa.PFnExactNameAt Go.Proofs.YtnkbmfbmcpdcpaaW.PrintWords Go.Proofs.YtnkbmfbmcpdcpaaW.PrintLast Go.Proofs.YtnkbmfbmcpdcpaaW.PrintMore Go.Proofs.Ytnkbmfbmcpdcpaa.Mine

theorem spec_l01P_ok (s : ByteArray) (p : Int) : spec_l01P.f s p = some (spotM s p) := by
  unfold spec_l01P.f spotM
  split
  · rfl
  · split <;> rfl

theorem spec_l03Break_ok (s : ByteArray) (p : Int) (h0 : 0 ≤ p) : spec_l03Break.f s p = some (brB (byteM s p)) := by
  unfold spec_l03Break.f
  by_cases h : p < s.size
  · rw [if_neg (by omega), if_pos h0, if_pos h, byteM_in h0 h]
    have := bt_lo s p
    by_cases h10 : bt s p = 10
    · rw [h10]; rfl
    · rw [brB_not.mpr (by omega)]; simp [h10]
  · rw [if_pos (by omega), byteM_end (by omega)]; rfl

theorem spec_l03White_in (s : ByteArray) (p : Int) (h0 : 0 ≤ p) (h1 : p < s.size) : spec_l03White.f s p = some (whB (bt s p)) := by
  simp (disch := omega) only [spec_l03White.f, if_pos]
  by_cases h : bt s p = 32
  · rw [if_pos h, whB_iff.mpr (.inl h)]
  · rw [if_neg h]
    by_cases h9 : bt s p = 9
    · rw [h9]; rfl
    · rw [whB_not.mpr (by omega)]; simp [h9]
theorem spec_l03White_end (s : ByteArray) (p : Int) (h1 : (s.size : Int) ≤ p) : spec_l03White.f s p = some false := by
  simp (disch := omega) only [spec_l03White.f, if_neg]
theorem spec_l03White_ok (s : ByteArray) (p : Int) (h0 : 0 ≤ p) : spec_l03White.f s p = some (whB (byteM s p)) := by
  by_cases h : p < s.size
  · rw [spec_l03White_in s p h0 h, byteM_in h0 h]
  · rw [spec_l03White_end s p (by omega), byteM_end (by omega)]; rfl

theorem spec_l03Gap_ok (s : ByteArray) (p : Int) (h0 : 0 ≤ p) : spec_l03Gap.f s p = some (gapB (byteM s p)) := by
  simp only [spec_l03Gap.f, spec_l03White_ok s p h0, spec_l03Break_ok s p h0, Option.bind_some, gapB_eq]
  cases whB (byteM s p) <;> rfl

theorem spec_l04Flow_ok (b : Int) : spec_l04Flow.f b = some (flB b) := by
  unfold spec_l04Flow.f flB
  by_cases h1 : b = 44
  · simp [h1]
  · by_cases h2 : b = 91
    · simp [h2]
    · by_cases h3 : b = 93
      · simp [h3]
      · by_cases h4 : b = 123
        · simp [h4]
        · by_cases h5 : b = 125
          · simp [h5]
          · simp [h1, h2, h3, h4, h5]

theorem spec_l04Stretch_l0 (s : ByteArray) (hs : s.size ≤ 140737488351232) (d : Nat) : ∀ (k : Nat) (i : Int), 0 ≤ i → s.size - i ≤ d → d < k →
    spec_l04Stretch.l0 k s i = some (upto stB s i) := by
  induction d with
  | zero =>
    intro k i h0 hd hk
    obtain ⟨k, rfl⟩ : ∃ m, k = m + 1 := ⟨k - 1, by omega⟩
    simp (disch := omega) only [spec_l04Stretch.l0, spec_l03Gap_ok, byteM_end, gap_end, Option.bind_some, if_true, upto_end]
  | succ d ih =>
    intro k i h0 hd hk
    obtain ⟨k, rfl⟩ : ∃ m, k = m + 1 := ⟨k - 1, by omega⟩
    by_cases hi : i < s.size
    · simp (disch := omega) only [spec_l04Stretch.l0, spec_l03Gap_ok, byteM_in, Option.bind_some]
      cases hg : gapB (bt s i) with
      | true => rw [if_pos rfl, upto_hit hi (stB_gap hg)]
      | false =>
        rw [if_neg (by decide), if_pos h0, if_pos hi, spec_l04Flow_ok, Option.bind_some]
        cases hf : flB (bt s i) with
        | true => rw [if_pos rfl, upto_hit hi (stB_fl hf)]
        | false =>
          rw [if_neg (by decide), upto_next hi (stB_no hg hf), w64 (by omega) (by omega)]
          exact ih k (i + 1) (by omega) (by omega) (by omega)
    · simp (disch := omega) only [spec_l04Stretch.l0, spec_l03Gap_ok, byteM_end, gap_end, Option.bind_some, if_true, upto_end]
theorem spec_l04Stretch_ok (s : ByteArray) (p : Int) (hs : s.size ≤ 140737488351232) (h0 : 0 ≤ p) (k : Nat) (hk : s.size < k) : spec_l04Stretch.f k s p = some (upto stB s p) :=
  spec_l04Stretch_l0 s hs s.size k p h0 (by omega) hk

theorem spec_NameAt_ok (s : ByteArray) (p : Int) (hs : s.size ≤ 140737488351232) (k : Nat) (hk : s.size + 1 < k) : spec_NameAt.f k s p = some (nameAtM s p) := by
  have h0 := spotM_lo s p
  have h1 := spotM_hi s p
  obtain ⟨k, rfl⟩ : ∃ m, k = m + 1 := ⟨k - 1, by omega⟩
  simp only [spec_NameAt.f, spec_l01P_ok, Option.bind_some, nameAtM]
  generalize spotM s p = q at h0 h1 ⊢
  have jt : spec_NameAt.j0 (k + 1) s q true = some ((⟨#[]⟩ : ByteArray), 0, false) := by simp only [spec_NameAt.j0, if_true]
  by_cases hq : q < s.size
  · have e0 := upto_ge stB s (q + 1)
    have e1 := upto_le (P := stB) (s := s) (p := q + 1) (by omega)
    have jf : spec_NameAt.j0 (k + 1) s q false = some (if 1 ≤ upto stB s (q + 1) - q - 1 ∧ upto stB s (q + 1) - q - 1 ≤ 60 then
        (s.extract (q + 1).toNat (upto stB s (q + 1)).toNat, upto stB s (q + 1), true) else ((⟨#[]⟩ : ByteArray), 0, false)) := by
      simp (disch := omega) only [spec_NameAt.j0, Bool.false_eq_true, if_false, w64, spec_l04Stretch_ok, Option.bind_some]
      generalize upto stB s (q + 1) = e at e0 e1 ⊢
      by_cases c1 : e = q + 1
      · rw [if_pos c1, if_neg (by omega)]
      · by_cases c2 : e - q - 1 > 60
        · rw [if_neg c1, if_pos c2, if_neg (by omega)]
        · rw [if_neg c1, if_neg c2, if_pos (by omega), if_pos (by omega), if_pos e1, if_pos (by omega)]
    rw [if_neg (by omega), if_pos h0, if_pos hq]
    by_cases c38 : bt s q = 38
    · rw [if_pos c38, jf, if_pos (show q < (s.size : Int) ∧ (bt s q = 38 ∨ bt s q = 42) from ⟨hq, .inl c38⟩)]
    · rw [if_neg c38]
      by_cases c42 : bt s q = 42
      · rw [show (bt s q != 42) = false by simp [c42], jf, if_pos (show q < (s.size : Int) ∧ (bt s q = 38 ∨ bt s q = 42) from ⟨hq, .inr c42⟩)]
      · rw [show (bt s q != 42) = true by simp [c42], jt, if_neg (show ¬ (q < (s.size : Int) ∧ (bt s q = 38 ∨ bt s q = 42)) by omega)]
  · rw [if_pos (by omega), jt, if_neg (show ¬ (q < (s.size : Int) ∧ (bt s q = 38 ∨ bt s q = 42)) by omega)]

theorem impl_spot_ok (s : ByteArray) (p : Int) : impl_spot.f s p = some (spotM s p) := by
  unfold impl_spot.f; rw [mn_mx_spotM]

theorem impl_byteAt_ok (s : ByteArray) (p : Int) : impl_byteAt.f s p = some (byteM s p) := by
  have h0 := spotM_lo s p
  have h1 := spotM_hi s p
  have h2 := bt_lo s (spotM s p)
  have h3 := bt_hi s (spotM s p)
  simp only [impl_byteAt.f, impl_spot_ok, Option.bind_some]
  unfold byteM
  by_cases h : spotM s p = (s.size : Int)
  · rw [if_pos h, if_pos h]
  · rw [if_neg h, if_neg h, if_pos h0, if_pos (by omega), w64 (by omega) (by omega)]

theorem impl_isBreak_ok (b : Int) : impl_isBreak.f b = some (brB b) := by
  unfold impl_isBreak.f brB
  by_cases h : b = 10
  · simp [h]
  · rw [if_neg h]; simp [h]

theorem impl_isWhite_ok (b : Int) : impl_isWhite.f b = some (whB b) := by
  unfold impl_isWhite.f
  by_cases h : b = 32
  · rw [if_pos h, whB_iff.mpr (.inl h)]
  · rw [if_neg h]
    by_cases h9 : b = 9
    · rw [h9]; rfl
    · rw [whB_not.mpr (by omega)]; simp [h9]

theorem impl_gapAt_ok (s : ByteArray) (p : Int) : impl_gapAt.f s p = some (gapB (byteM s p)) := by
  simp only [impl_gapAt.f, impl_byteAt_ok, impl_isWhite_ok, impl_isBreak_ok, Option.bind_some, gapB_eq]
  cases whB (byteM s p) <;> rfl

theorem impl_isFlow_ok (b : Int) : impl_isFlow.f b = some (flB b) := by
  unfold impl_isFlow.f flB
  by_cases h1 : b = 44
  · simp [h1]
  · by_cases h2 : b = 91
    · simp [h2]
    · by_cases h3 : b = 93
      · simp [h3]
      · by_cases h4 : b = 123
        · simp [h4]
        · by_cases h5 : b = 125
          · simp [h5]
          · simp [h1, h2, h3, h4, h5]

theorem impl_stretch_l0 (s : ByteArray) (hs : s.size ≤ 140737488351232) (d : Nat) : ∀ (k : Nat) (i : Int), 0 ≤ i → s.size - i ≤ d → d < k →
    impl_stretch.l0 k s i = some (upto stB s i) := by
  induction d with
  | zero =>
    intro k i h0 hd hk
    obtain ⟨k, rfl⟩ : ∃ m, k = m + 1 := ⟨k - 1, by omega⟩
    simp (disch := omega) only [impl_stretch.l0, impl_gapAt_ok, byteM_end, gap_end, Option.bind_some, if_true, upto_end]
  | succ d ih =>
    intro k i h0 hd hk
    obtain ⟨k, rfl⟩ : ∃ m, k = m + 1 := ⟨k - 1, by omega⟩
    by_cases hi : i < s.size
    · simp (disch := omega) only [impl_stretch.l0, impl_gapAt_ok, impl_byteAt_ok, impl_isFlow_ok, byteM_in, Option.bind_some]
      cases hg : gapB (bt s i) with
      | true => rw [if_pos rfl, upto_hit hi (stB_gap hg)]
      | false =>
        rw [if_neg (by decide)]
        cases hf : flB (bt s i) with
        | true => rw [if_pos rfl, upto_hit hi (stB_fl hf)]
        | false =>
          rw [if_neg (by decide), upto_next hi (stB_no hg hf), w64 (by omega) (by omega)]
          exact ih k (i + 1) (by omega) (by omega) (by omega)
    · simp (disch := omega) only [impl_stretch.l0, impl_gapAt_ok, byteM_end, gap_end, Option.bind_some, if_true, upto_end]
theorem impl_stretch_ok (s : ByteArray) (p : Int) (hs : s.size ≤ 140737488351232) (h0 : 0 ≤ p) (k : Nat) (hk : s.size < k) : impl_stretch.f k s p = some (upto stB s p) :=
  impl_stretch_l0 s hs s.size k p h0 (by omega) hk

theorem impl_within_ok (a b c : Int) : impl_within.f a b c = some (decide (b ≤ a ∧ a ≤ c)) := by
  unfold impl_within.f
  by_cases h : a ≥ b
  · rw [if_pos h]; simp only [Option.some.injEq, decide_eq_decide]; omega
  · rw [if_neg h]; simp only [Option.some.injEq]; symm; simp only [decide_eq_false_iff_not]; omega

theorem impl_NameAt_ok (s : ByteArray) (p : Int) (hs : s.size ≤ 140737488351232) (k : Nat) (hk : s.size + 1 < k) : impl_NameAt.f k s p = some (nameAtM s p) := by
  have h0 := spotM_lo s p
  have h1 := spotM_hi s p
  obtain ⟨k, rfl⟩ : ∃ m, k = m + 1 := ⟨k - 1, by omega⟩
  simp only [impl_NameAt.f, impl_spot_ok, impl_byteAt_ok, Option.bind_some, nameAtM]
  generalize spotM s p = q at h0 h1 ⊢
  have jt : impl_NameAt.j0 (k + 1) s q true = some ((⟨#[]⟩ : ByteArray), 0, false) := by simp only [impl_NameAt.j0, if_true]
  by_cases hq : q < s.size
  · have e0 := upto_ge stB s (q + 1)
    have e1 := upto_le (P := stB) (s := s) (p := q + 1) (by omega)
    have jf : impl_NameAt.j0 (k + 1) s q false = some (if 1 ≤ upto stB s (q + 1) - q - 1 ∧ upto stB s (q + 1) - q - 1 ≤ 60 then
        (s.extract (q + 1).toNat (upto stB s (q + 1)).toNat, upto stB s (q + 1), true) else ((⟨#[]⟩ : ByteArray), 0, false)) := by
      simp (disch := omega) only [impl_NameAt.j0, Bool.false_eq_true, if_false, w64, impl_stretch_ok, impl_within_ok, Option.bind_some, decide_eq_true_eq]
      generalize upto stB s (q + 1) = e at e0 e1 ⊢
      by_cases c : 1 ≤ e - q - 1 ∧ e - q - 1 ≤ 60
      · rw [if_pos c, if_pos c, if_pos (by omega), if_pos (by omega), if_pos e1]
      · rw [if_neg c, if_neg c]
    rw [byteM_in h0 hq]
    by_cases c38 : bt s q = 38
    · rw [if_pos c38, jf, if_pos (show q < (s.size : Int) ∧ (bt s q = 38 ∨ bt s q = 42) from ⟨hq, .inl c38⟩)]
    · rw [if_neg c38]
      by_cases c42 : bt s q = 42
      · rw [show (bt s q != 42) = false by simp [c42], jf, if_pos (show q < (s.size : Int) ∧ (bt s q = 38 ∨ bt s q = 42) from ⟨hq, .inr c42⟩)]
      · rw [show (bt s q != 42) = true by simp [c42], jt, if_neg (show ¬ (q < (s.size : Int) ∧ (bt s q = 38 ∨ bt s q = 42)) by omega)]
  · rw [byteM_end (by omega), if_neg (by omega), show ((-1 : Int) != 42) = true from rfl, jt, if_neg (show ¬ (q < (s.size : Int) ∧ (bt s q = 38 ∨ bt s q = 42)) by omega)]

theorem FnExactNameAt : laws_FnExactNameAt.Pure := by
  intro s p hs hp
  by_cases h : (s.size : Int) > 1048576
  · exact ⟨0, by simp only [laws_FnExactNameAt.f, if_pos h]⟩
  · refine ⟨2 * s.size + 100, ?_⟩
    simp (disch := omega) only [laws_FnExactNameAt.f, if_neg, spec_NameAt_ok, impl_NameAt_ok, Option.bind_some, if_true, bne_self_eq_false, Bool.false_eq_true, if_false]

end Go.Proofs.Ytnkbmfbmcpdcpaa.Pure
