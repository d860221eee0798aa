/- For every text of at most 2^20 bytes and all other arguments, the program's Gap answers as the reference's does; no condition beyond the statement's own. -/
import Derived.Test.YtnkbmfbmcpdcpaaPFnExactGapx0
import Derived.Test.YtnkbmfbmcpdcpaaPFnExactGapx1
import Derived.Test.YtnkbmfbmcpdcpaaPFnExactGapx2
import Derived.Test.YtnkbmfbmcpdcpaaIx
import Derived.Test.YtnkbmfbmcpdcpaaMine
import Derived.Test.YtnkbmfbmcpdcpaaTxt
namespace Go.Proofs.Ytnkbmfbmcpdcpaa.Pure
open Go.RowKit Go.Proofs.Ytnkbmfbmcpdcpaa.PFnExactGap Go.Proofs.YtnkbmfbmcpdcpaaW.PrintWords Go.Proofs.YtnkbmfbmcpdcpaaW.PrintLast Go.Proofs.YtnkbmfbmcpdcpaaW.PrintMore Go.Proofs.Ytnkbmfbmcpdcpaa.Mine

theorem spec_l01P_ok (s : ByteArray) (p : Int) : spec_l01P.f s p = some (spotM s p) := by
  unfold spec_l01P.f spotM
  split
  · rfl
  · split <;> rfl

theorem spec_l03White_in (s : ByteArray) (p : Int) (h0 : 0 ≤ p) (h1 : p < s.size) : spec_l03White.f s p = some (whB (bt s p)) := by
  simp (disch := omega) only [spec_l03White.f, if_pos]
  by_cases h : bt s p = 32
  · rw [if_pos h, whB_iff.mpr (.inl h)]
  · rw [if_neg h]
    by_cases h9 : bt s p = 9
    · rw [h9]; rfl
    · rw [whB_not.mpr (by omega)]; simp [h9]
theorem spec_l03White_end (s : ByteArray) (p : Int) (h1 : (s.size : Int) ≤ p) : spec_l03White.f s p = some false := by
  simp (disch := omega) only [spec_l03White.f, if_neg]
theorem spec_l03White_ok (s : ByteArray) (p : Int) (h0 : 0 ≤ p) : spec_l03White.f s p = some (whB (byteM s p)) := by
  by_cases h : p < s.size
  · rw [spec_l03White_in s p h0 h, byteM_in h0 h]
  · rw [spec_l03White_end s p (by omega), byteM_end (by omega)]; rfl

theorem spec_White_l0 (s : ByteArray) (hs : s.size ≤ 140737488351232) (d : Nat) : ∀ (k : Nat) (i : Int), 0 ≤ i → i ≤ s.size → s.size - i ≤ d → d < k →
    spec_White.l0 k s i = some (upto noWh s i) := by
  induction d with
  | zero =>
    intro k i h0 h1 hd hk
    obtain ⟨k, rfl⟩ : ∃ m, k = m + 1 := ⟨k - 1, by omega⟩
    simp (disch := omega) only [spec_White.l0, spec_l03White_end, Option.bind_some, Bool.false_eq_true, if_false, upto_end]
  | succ d ih =>
    intro k i h0 h1 hd hk
    obtain ⟨k, rfl⟩ : ∃ m, k = m + 1 := ⟨k - 1, by omega⟩
    by_cases hi : i < s.size
    · simp (disch := omega) only [spec_White.l0, spec_l03White_in, Option.bind_some]
      by_cases hb : whB (bt s i) = true
      · rw [if_pos hb, upto_next hi (by simp [noWh, hb]), w64 (by omega) (by omega)]
        exact ih k (i + 1) (by omega) (by omega) (by omega) (by omega)
      · rw [if_neg hb, upto_hit hi (by simpa [noWh] using hb)]
    · simp (disch := omega) only [spec_White.l0, spec_l03White_end, Option.bind_some, Bool.false_eq_true, if_false, upto_end]
theorem spec_White_ok (s : ByteArray) (p : Int) (hs : s.size ≤ 140737488351232) (k : Nat) (hk : s.size < k) : spec_White.f k s p = some (whiteM s p) := by
  have h0 := spotM_lo s p
  have h1 := spotM_hi s p
  simp only [spec_White.f, spec_l01P_ok, Option.bind_some]
  exact spec_White_l0 s hs s.size k _ h0 h1 (by omega) hk

theorem spec_LineAt_l0 (s : ByteArray) (hs : s.size ≤ 140737488351232) (d : Nat) : ∀ (k : Nat) (i : Int), 0 ≤ i → i ≤ s.size → i ≤ d → d < k →
    spec_LineAt.l0 k s i = some (lastM 10 s i) := by
  induction d with
  | zero =>
    intro k i h0 h1 hd hk
    obtain ⟨k, rfl⟩ : ∃ m, k = m + 1 := ⟨k - 1, by omega⟩
    simp (disch := omega) only [spec_LineAt.l0, if_neg, lastM_neg]
    congr 1; omega
  | succ d ih =>
    intro k i h0 h1 hd hk
    obtain ⟨k, rfl⟩ : ∃ m, k = m + 1 := ⟨k - 1, by omega⟩
    by_cases hi : 0 < i
    · by_cases hb : bt s (i - 1) = 10
      · simp (disch := omega) only [spec_LineAt.l0, if_pos, w64, lastM_hit]
      · simp (disch := omega) only [spec_LineAt.l0, if_pos, if_neg, w64, lastM_prev]
        exact ih k (i - 1) (by omega) (by omega) (by omega) (by omega)
    · simp (disch := omega) only [spec_LineAt.l0, if_neg, lastM_neg]
      congr 1; omega
theorem spec_LineAt_ok (s : ByteArray) (p : Int) (hs : s.size ≤ 140737488351232) (k : Nat) (hk : s.size < k) : spec_LineAt.f k s p = some (lineM s p) := by
  have h0 := spotM_lo s p
  have h1 := spotM_hi s p
  simp only [spec_LineAt.f, spec_l01P_ok, Option.bind_some]
  exact spec_LineAt_l0 s hs s.size k _ h0 h1 h1 hk

theorem spec_EndAt_l0 (s : ByteArray) (hs : s.size ≤ 140737488351232) (d : Nat) : ∀ (k : Nat) (i : Int), 0 ≤ i → i ≤ s.size → s.size - i ≤ d → d < k →
    spec_EndAt.l0 k s i = some (upto isLf s i) := by
  induction d with
  | zero =>
    intro k i h0 h1 hd hk
    obtain ⟨k, rfl⟩ : ∃ m, k = m + 1 := ⟨k - 1, by omega⟩
    simp (disch := omega) only [spec_EndAt.l0, if_neg, upto_end]
  | succ d ih =>
    intro k i h0 h1 hd hk
    obtain ⟨k, rfl⟩ : ∃ m, k = m + 1 := ⟨k - 1, by omega⟩
    by_cases hi : i < s.size
    · by_cases hb : bt s i = 10
      · rw [upto_hit hi (isLf_iff.mpr hb)]
        simp (disch := omega) only [spec_EndAt.l0, if_pos, if_neg]
      · rw [upto_next hi (isLf_not.mpr hb)]
        simp (disch := omega) only [spec_EndAt.l0, if_pos, if_neg, w64]
        exact ih k (i + 1) (by omega) (by omega) (by omega) (by omega)
    · simp (disch := omega) only [spec_EndAt.l0, if_neg, upto_end]
theorem spec_EndAt_ok (s : ByteArray) (p : Int) (hs : s.size ≤ 140737488351232) (k : Nat) (hk : s.size < k) : spec_EndAt.f k s p = some (endM s p) := by
  have h0 := spotM_lo s p
  have h1 := spotM_hi s p
  simp only [spec_EndAt.f, spec_l01P_ok, Option.bind_some]
  exact spec_EndAt_l0 s hs s.size k _ h0 h1 (by omega) hk

theorem spec_Gap_l0 (s : ByteArray) (hs : s.size ≤ 140737488351232) (d : Nat) : ∀ (k : Nat) (p : Int), 0 ≤ p → p ≤ s.size → (s.size : Int) - p < d → s.size + 4 + 2 * d ≤ k →
    spec_Gap.l0 k s p = some (gp s p) := by
  induction d with
  | zero => intro k p h0 h1 hd hk; omega
  | succ d ih =>
    intro k p h0 h1 hd hk
    obtain ⟨k, rfl⟩ : ∃ m, k = m + 2 := ⟨k - 2, by omega⟩
    rw [spec_Gap.l0, spec_White_ok s p hs _ (by omega), Option.bind_some]
    have w0 := whiteM_ge s p
    have w1 := whiteM_le s p
    rw [spotM_in h0 h1] at w0
    have gw : gp s p = gp s (whiteM s p) := by
      unfold whiteM; rw [spotM_in h0 h1]; exact gp_white s s.size p h0 (by omega)
    have hw : whiteM s p < s.size → whB (bt s (whiteM s p)) = false := fun h => by
      have := upto_hits (P := noWh) (s := s) (p := spotM s p) h
      have e : whB (bt s (whiteM s p)) = false := by unfold whiteM; simpa [noWh] using this
      exact e
    rw [gw]
    generalize whiteM s p = w at w0 w1 hw ⊢
    have jf : ¬ (w < s.size ∧ (bt s w = 35 ∧ (lineM s w = w ∨ whB (byteM s (w - 1)) = true))) → spec_Gap.j1 (k + 1) s w false = some (gp s w) := fun hno => by
      rw [spec_Gap.j1, if_neg (by decide)]
      by_cases hlt : w < s.size
      · rw [if_neg (by omega), if_pos (by omega), if_pos hlt]
        by_cases h10 : bt s w = 10
        · rw [if_pos h10, w64 (by omega) (by omega), gp_step (by omega) hlt (step_br h10) (by omega)]
          exact ih k (w + 1) (by omega) (by omega) (by omega) (by omega)
        · rw [if_neg h10, gp_stop hlt (step_no h10 (hw hlt) (fun c => hno ⟨hlt, c⟩))]
      · rw [if_pos (by omega), gp_end (by omega)]
    have jt : w < s.size → bt s w = 35 → (lineM s w = w ∨ whB (byteM s (w - 1)) = true) → spec_Gap.j1 (k + 1) s w true = some (gp s w) := fun hlt h35 hr => by
      have g0 := endM_gt (by omega) hlt (by omega)
      have g1 := endM_le s w
      rw [spec_Gap.j1, if_pos rfl, spec_EndAt_ok s w hs k (by omega), Option.bind_some, gp_step (by omega) hlt (step_rem h35 hr) (by omega)]
      by_cases hE : endM s w < s.size
      · rw [if_neg (by omega), if_pos (by omega), if_pos hE]
        have h10 : bt s (endM s w) = 10 := isLf_iff.mp (upto_hits (P := isLf) (s := s) (p := spotM s w) hE)
        rw [if_pos h10, w64 (by omega) (by omega), gp_step (by omega) hE (step_br h10) (by omega)]
        exact ih k _ (by omega) (by omega) (by omega) (by omega)
      · rw [if_pos (by omega), gp_end (by omega)]
    by_cases hlt : w < s.size
    · rw [if_pos hlt, if_pos (by omega)]
      by_cases h35 : bt s w = 35
      · rw [if_pos h35, spec_LineAt_ok s w hs _ (by omega), Option.bind_some]
        by_cases hl : lineM s w = w
        · rw [if_pos hl]; exact jt hlt h35 (.inl hl)
        · have hw0 : 0 < w := by
            by_cases c : 0 < w
            · exact c
            · have := lineM_lo s w
              have := lineM_hi s w
              rw [spotM_in (by omega) (by omega)] at this
              omega
          rw [if_neg hl, w64 (by omega) (by omega), spec_l03White_ok s (w - 1) (by omega), Option.bind_some]
          cases hw1 : whB (byteM s (w - 1)) with
          | true => exact jt hlt h35 (.inr hw1)
          | false => exact jf (fun c => by rcases c.2.2 with c | c; exact hl c; rw [hw1] at c; cases c)
      · rw [if_neg h35]; exact jf (fun c => h35 c.2.1)
    · rw [if_neg hlt]; exact jf (fun c => hlt c.1)
theorem spec_Gap_ok (s : ByteArray) (p : Int) (hs : s.size ≤ 140737488351232) (k : Nat) (hk : 3 * s.size + 10 ≤ k) : spec_Gap.f k s p = some (gapM s p) := by
  have h0 := spotM_lo s p
  have h1 := spotM_hi s p
  simp only [spec_Gap.f, spec_l01P_ok, Option.bind_some]
  exact spec_Gap_l0 s hs (s.size + 1) k _ h0 h1 (by omega) (by omega)

theorem impl_spot_ok (s : ByteArray) (p : Int) : impl_spot.f s p = some (spotM s p) := by
  unfold impl_spot.f; rw [mn_mx_spotM]

theorem impl_byteAt_ok (s : ByteArray) (p : Int) : impl_byteAt.f s p = some (byteM s p) := by
  have h0 := spotM_lo s p
  have h1 := spotM_hi s p
  have h2 := bt_lo s (spotM s p)
  have h3 := bt_hi s (spotM s p)
  simp only [impl_byteAt.f, impl_spot_ok, Option.bind_some]
  unfold byteM
  by_cases h : spotM s p = (s.size : Int)
  · rw [if_pos h, if_pos h]
  · rw [if_neg h, if_neg h, if_pos h0, if_pos (by omega), w64 (by omega) (by omega)]

theorem bytealg_LastIndexByteString_l0 (s : ByteArray) (c : Int) (hs : s.size ≤ 140737488351232) (d : Nat) : ∀ (k : Nat) (i : Int), -1 ≤ i → i < s.size → i < d → d < k →
    bytealg_LastIndexByteString.l0 k s c i = some (lastM c s (i + 1) - 1) := by
  induction d with
  | zero =>
    intro k i h0 h1 hd hk
    obtain ⟨k, rfl⟩ : ∃ m, k = m + 1 := ⟨k - 1, by omega⟩
    simp (disch := omega) only [bytealg_LastIndexByteString.l0, if_neg, lastM_neg]
    rfl
  | succ d ih =>
    intro k i h0 h1 hd hk
    obtain ⟨k, rfl⟩ : ∃ m, k = m + 1 := ⟨k - 1, by omega⟩
    by_cases hi : 0 ≤ i
    · by_cases hb : bt s i = c
      · have hb' : bt s (i + 1 - 1) = c := by rw [show i + 1 - 1 = i by omega]; exact hb
        rw [lastM_hit (by omega) hb']
        simp (disch := omega) only [bytealg_LastIndexByteString.l0, if_pos]
        congr 1; omega
      · have hb' : ¬ bt s (i + 1 - 1) = c := by rw [show i + 1 - 1 = i by omega]; exact hb
        rw [lastM_prev (by omega) hb']
        simp (disch := omega) only [bytealg_LastIndexByteString.l0, if_pos, if_neg, w64]
        rw [ih k (i - 1) (by omega) (by omega) (by omega) (by omega)]
        rw [show i + 1 - 1 = i - 1 + 1 by omega]
    · simp (disch := omega) only [bytealg_LastIndexByteString.l0, if_neg, lastM_neg]
      rfl
theorem bytealg_LastIndexByteString_ok (s : ByteArray) (c : Int) (hs : s.size ≤ 140737488351232) (k : Nat) (hk : s.size < k) :
    bytealg_LastIndexByteString.f k s c = some (lastM c s s.size - 1) := by
  unfold bytealg_LastIndexByteString.f
  rw [w64 (by omega) (by omega), bytealg_LastIndexByteString_l0 s c hs s.size k _ (by omega) (by omega) (by omega) hk]
  rw [show (s.size : Int) - 1 + 1 = s.size by omega]

theorem strings_LastIndexByte_ok (s : ByteArray) (c : Int) (hs : s.size ≤ 140737488351232) (k : Nat) (hk : s.size < k) :
    strings_LastIndexByte.f k s c = some (lastM c s s.size - 1) := by
  simp (disch := omega) only [strings_LastIndexByte.f, bytealg_LastIndexByteString_ok, Option.bind_some]

theorem impl_LineAt_ok (s : ByteArray) (p : Int) (hs : s.size ≤ 140737488351232) (k : Nat) (hk : s.size < k) : impl_LineAt.f k s p = some (lineM s p) := by
  have h0 := spotM_lo s p
  have h1 := spotM_hi s p
  have hz : (s.extract 0 (spotM s p).toNat).size = (spotM s p).toNat := by rw [size_ext _ _ _ (by omega)]; omega
  have hl := lastM_lo 10 (s.extract 0 (spotM s p).toNat) ((spotM s p).toNat : Int)
  have hm := lastM_hi (c := 10) (s := s.extract 0 (spotM s p).toNat) (p := ((spotM s p).toNat : Int)) (by omega)
  simp only [impl_LineAt.f, impl_spot_ok, Option.bind_some]
  rw [if_pos h0, if_pos h1, strings_LastIndexByte_ok _ _ (by omega) k (by omega), Option.bind_some, hz, w64 (by omega) (by omega)]
  unfold lineM
  rw [show ((spotM s p).toNat : Int) = spotM s p by omega] at *
  rw [show ∀ x : Int, x - 1 + 1 = x by intro x; omega]
  congr 1
  refine lastM_ext fun i a b => ?_
  rw [bt_ext (by omega) a (by omega)]
  congr 1; omega

theorem impl_isWhite_ok (b : Int) : impl_isWhite.f b = some (whB b) := by
  unfold impl_isWhite.f
  by_cases h : b = 32
  · rw [if_pos h, whB_iff.mpr (.inl h)]
  · rw [if_neg h]
    by_cases h9 : b = 9
    · rw [h9]; rfl
    · rw [whB_not.mpr (by omega)]; simp [h9]

theorem impl_EndAt_ok (s : ByteArray) (p : Int) (hs : s.size ≤ 140737488351232) : impl_EndAt.f s p = some (endM s p) := by
  have h0 := spotM_lo s p
  have h1 := spotM_hi s p
  simp only [impl_EndAt.f, impl_spot_ok, Option.bind_some]
  rw [if_pos h0, if_pos h1]
  simp only [strings_IndexByte.f, Option.bind_some]
  obtain ⟨r, hr⟩ : ∃ r, Lib.indexByte (s.extract (spotM s p).toNat s.size).data.toList (10 : Int).toNat.toUInt8 = r := ⟨_, rfl⟩
  obtain ⟨a, b, c⟩ := ix_ext h0 h1 hr
  rw [hr]
  unfold endM
  rw [← c]
  by_cases h : r < 0
  · rw [if_pos h, if_pos h]
  · rw [if_neg h, if_neg h, w64 (by omega) (by omega)]

theorem impl_Gap_l0 (s : ByteArray) (hs : s.size ≤ 140737488351232) (d : Nat) : ∀ (k : Nat) (p : Int), 0 ≤ p → p ≤ s.size → (s.size : Int) - p ≤ d → s.size + 2 + 2 * d ≤ k →
    impl_Gap.l0 k s p = some (gp s p) := by
  induction d with
  | zero =>
    intro k p h0 h1 hd hk
    obtain ⟨k, rfl⟩ : ∃ m, k = m + 1 := ⟨k - 1, by omega⟩
    rw [impl_Gap.l0, if_neg (by omega), gp_end (by omega)]
  | succ d ih =>
    intro k p h0 h1 hd hk
    obtain ⟨k, rfl⟩ : ∃ m, k = m + 2 := ⟨k - 2, by omega⟩
    by_cases hp : p < s.size
    · have e1 : wrap64 (p + 1) = p + 1 := w64 (by omega) (by omega)
      have e2 : wrap64 (p - 1) = p - 1 := w64 (by omega) (by omega)
      have jt : ∀ b, impl_Gap.j1 (k + 1) s p b true = impl_Gap.l0 k s (p + 1) := fun b => by rw [impl_Gap.j1, if_pos rfl, e1]
      rw [impl_Gap.l0, if_pos hp]
      simp only [impl_byteAt_ok, impl_isWhite_ok, byteM_in h0 hp, Option.bind_some]
      have hb0 := bt_lo s p
      cases hw : whB (bt s p) with
      | true =>
        rw [if_pos rfl, jt, gp_step h0 hp (step_wh hw) (by omega)]
        exact ih k (p + 1) (by omega) (by omega) (by omega) (by omega)
      | false =>
        rw [if_neg (by decide)]
        by_cases h10 : bt s p = 10
        · rw [show (bt s p == 10) = true by simp [h10], jt, gp_step h0 hp (step_br h10) (by omega)]
          exact ih k (p + 1) (by omega) (by omega) (by omega) (by omega)
        · rw [show (bt s p == 10) = false by simp [h10], impl_Gap.j1, if_neg (by decide)]
          by_cases h35 : bt s p = 35
          · rw [if_pos h35]
            have g0 := endM_gt h0 hp h10
            have g1 := endM_le s p
            rw [impl_LineAt_ok s p hs k (by omega), Option.bind_some]
            have onRem : (lineM s p = p ∨ whB (byteM s (p - 1)) = true) → impl_Gap.l0 k s (endM s p) = some (gp s p) := fun h => by
              rw [gp_step h0 hp (step_rem h35 h) (by omega)]
              exact ih k _ (by omega) (by omega) (by omega) (by omega)
            by_cases hl : lineM s p = p
            · rw [if_pos hl, impl_EndAt_ok s p hs, Option.bind_some]
              exact onRem (.inl hl)
            · rw [if_neg hl, e2, impl_byteAt_ok, Option.bind_some, impl_isWhite_ok, Option.bind_some]
              cases hw1 : whB (byteM s (p - 1)) with
              | true => rw [if_pos rfl, impl_EndAt_ok s p hs, Option.bind_some]; exact onRem (.inr hw1)
              | false =>
                rw [if_neg (by decide), gp_stop hp (step_no h10 hw (by rw [hw1]; intro c; rcases c.2 with c | c; exact hl c; cases c))]
          · rw [if_neg h35, gp_stop hp (step_no h10 hw (fun c => h35 c.1))]
    · rw [impl_Gap.l0, if_neg hp, gp_end (by omega)]
theorem impl_Gap_ok (s : ByteArray) (p : Int) (hs : s.size ≤ 140737488351232) (k : Nat) (hk : 3 * s.size + 4 ≤ k) : impl_Gap.f k s p = some (gapM s p) := by
  have h0 := spotM_lo s p
  have h1 := spotM_hi s p
  simp only [impl_Gap.f, impl_spot_ok, Option.bind_some]
  exact impl_Gap_l0 s hs s.size k _ h0 h1 (by omega) (by omega)

theorem FnExactGap : laws_FnExactGap.Pure := by
  intro s p hs hp
  by_cases h : (s.size : Int) > 1048576
  · exact ⟨0, by simp only [laws_FnExactGap.f, if_pos h]⟩
  · refine ⟨3 * s.size + 100, ?_⟩
    simp (disch := omega) only [laws_FnExactGap.f, if_neg, spec_Gap_ok, impl_Gap_ok, Option.bind_some, if_true]

end Go.Proofs.Ytnkbmfbmcpdcpaa.Pure
