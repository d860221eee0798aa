/- For every text of at most 2^20 bytes and all other arguments, the program's PlainEnd answers as the reference's does; no condition beyond the statement's own. -/
import Derived.Test.YtnkbmfbmcpdcpaaPFnExactPlainEndx0
import Derived.Test.YtnkbmfbmcpdcpaaPFnExactPlainEndx1
import Derived.Test.YtnkbmfbmcpdcpaaPFnExactPlainEndx2
import Derived.Test.YtnkbmfbmcpdcpaaPFnExactPlainEndx3
import Derived.Test.YtnkbmfbmcpdcpaaPFnExactPlainEndx4
import Derived.Test.YtnkbmfbmcpdcpaaMine
namespace Go.Proofs.Ytnkbmfbmcpdcpaa.Pure
open Go.RowKit Go.Proofs.Ytnkbmfbmcpdcpaa.PFnExactPlainEnd Go.Proofs.YtnkbmfbmcpdcpaaW.PrintWords Go.Proofs.YtnkbmfbmcpdcpaaW.PrintLast Go.Proofs.YtnkbmfbmcpdcpaaW.PrintMore Go.Proofs.Ytnkbmfbmcpdcpaa.Mine

theorem spec_l03Break_ok (s : ByteArray) (p : Int) (h0 : 0 ≤ p) : spec_l03Break.f s p = some (brB (byteM s p)) := by
  unfold spec_l03Break.f
  by_cases h : p < s.size
  · rw [if_neg (by omega), if_pos h0, if_pos h, byteM_in h0 h]
    have := bt_lo s p
    by_cases h10 : bt s p = 10
    · rw [h10]; rfl
    · rw [brB_not.mpr (by omega)]; simp [h10]
  · rw [if_pos (by omega), byteM_end (by omega)]; rfl

theorem spec_l01P_ok (s : ByteArray) (p : Int) : spec_l01P.f s p = some (spotM s p) := by
  unfold spec_l01P.f spotM
  split
  · rfl
  · split <;> rfl

theorem spec_l03White_in (s : ByteArray) (p : Int) (h0 : 0 ≤ p) (h1 : p < s.size) : spec_l03White.f s p = some (whB (bt s p)) := by
  simp (disch := omega) only [spec_l03White.f, if_pos]
  by_cases h : bt s p = 32
  · rw [if_pos h, whB_iff.mpr (.inl h)]
  · rw [if_neg h]
    by_cases h9 : bt s p = 9
    · rw [h9]; rfl
    · rw [whB_not.mpr (by omega)]; simp [h9]
theorem spec_l03White_end (s : ByteArray) (p : Int) (h1 : (s.size : Int) ≤ p) : spec_l03White.f s p = some false := by
  simp (disch := omega) only [spec_l03White.f, if_neg]
theorem spec_l03White_ok (s : ByteArray) (p : Int) (h0 : 0 ≤ p) : spec_l03White.f s p = some (whB (byteM s p)) := by
  by_cases h : p < s.size
  · rw [spec_l03White_in s p h0 h, byteM_in h0 h]
  · rw [spec_l03White_end s p (by omega), byteM_end (by omega)]; rfl

theorem spec_l03Gap_ok (s : ByteArray) (p : Int) (h0 : 0 ≤ p) : spec_l03Gap.f s p = some (gapB (byteM s p)) := by
  simp only [spec_l03Gap.f, spec_l03White_ok s p h0, spec_l03Break_ok s p h0, Option.bind_some, gapB_eq]
  cases whB (byteM s p) <;> rfl

theorem spec_l04Flow_ok (b : Int) : spec_l04Flow.f b = some (flB b) := by
  unfold spec_l04Flow.f flB
  by_cases h1 : b = 44
  · simp [h1]
  · by_cases h2 : b = 91
    · simp [h2]
    · by_cases h3 : b = 93
      · simp [h3]
      · by_cases h4 : b = 123
        · simp [h4]
        · by_cases h5 : b = 125
          · simp [h5]
          · simp [h1, h2, h3, h4, h5]

theorem spec_PlainEnd_l1 (s : ByteArray) (hs : s.size ≤ 140737488351232) (p : Int) (h0 : 0 ≤ p) (n : Nat) : ∀ (k : Nat), p + n ≤ s.size → n < k → spec_PlainEnd.l1 k s p (p + n) = some (backW s p n) := by
  induction n with
  | zero =>
    intro k h1 hk
    obtain ⟨k, rfl⟩ : ∃ m, k = m + 1 := ⟨k - 1, by omega⟩
    simp (disch := omega) only [spec_PlainEnd.l1, if_neg, backW]
    congr 1; omega
  | succ n ih =>
    intro k h1 hk
    obtain ⟨k, rfl⟩ : ∃ m, k = m + 1 := ⟨k - 1, by omega⟩
    have e : p + ((n + 1 : Nat) : Int) - 1 = p + n := by omega
    simp (disch := omega) only [spec_PlainEnd.l1, if_pos, w64]
    rw [e, spec_l03White_in s (p + n) (by omega) (by omega), Option.bind_some]
    simp only [backW]
    cases hw : whB (bt s (p + n)) with
    | true => rw [if_pos rfl, if_pos rfl]; exact ih k (by omega) (by omega)
    | false => rw [if_neg (by decide), if_neg (by decide)]; congr 1; omega
theorem spec_PlainEnd_end (s : ByteArray) (hs : s.size ≤ 140737488351232) (p q : Int) (h0 : 0 ≤ p) (hq : p ≤ q) (hq1 : q ≤ s.size) (k : Nat) (hk : s.size + 1 < k) : spec_PlainEnd.j2 k s p q = some (backW s p (q - p).toNat) := by
  obtain ⟨k, rfl⟩ : ∃ m, k = m + 1 := ⟨k - 1, by omega⟩
  simp only [spec_PlainEnd.j2]
  obtain ⟨n, rfl⟩ : ∃ n : Nat, q = p + n := ⟨(q - p).toNat, by omega⟩
  rw [show (p + n - p).toNat = n by omega]
  exact spec_PlainEnd_l1 s hs p h0 n k hq1 (by omega)
theorem spec_PlainEnd_j1t (s : ByteArray) (p q : Int) (flow : Bool) (k : Nat) : spec_PlainEnd.j1 (k + 1) s p flow q true = spec_PlainEnd.j2 k s p q := by
  simp only [spec_PlainEnd.j1, if_true]
theorem spec_PlainEnd_j1f (s : ByteArray) (p q : Int) (flow : Bool) (hs : s.size ≤ 140737488351232) (h0 : 0 ≤ q) (h1 : q < s.size) (k : Nat) : spec_PlainEnd.j1 (k + 1) s p flow q false =
    if (decide (byteM s q = 58) && (gapB (byteM s (q + 1)) || (flow && flB (byteM s (q + 1))))) = true then spec_PlainEnd.j2 k s p q else spec_PlainEnd.l0 k s p flow (q + 1) := by
  simp (disch := omega) only [spec_PlainEnd.j1, Bool.false_eq_true, if_false, if_pos, w64, spec_l03Gap_ok, Option.bind_some, byteM_in]
  by_cases c : bt s q = 58
  · rw [if_pos c, show decide (bt s q = 58) = true by simpa using c, Bool.true_and]
    cases hg : gapB (byteM s (q + 1)) with
    | true => simp
    | false =>
      have hq : q + 1 < s.size := by
        by_cases d : q + 1 < s.size
        · exact d
        · rw [byteM_end (by omega)] at hg; cases hg
      cases flow with
      | false => simp
      | true =>
        rw [if_neg (by decide), if_pos rfl, if_pos hq, spec_l04Flow_ok, Option.bind_some, byteM_in (by omega) hq]
        simp
  · rw [if_neg c, show decide (bt s q = 58) = false by simpa using c, Bool.false_and, if_neg (by decide)]
theorem spec_PlainEnd_l0 (s : ByteArray) (hs : s.size ≤ 140737488351232) (p : Int) (h0 : 0 ≤ p) (flow : Bool) (d : Nat) : ∀ (k : Nat) (q : Int), p ≤ q → (s.size : Int) - q = d → s.size + 4 + 2 * d ≤ k →
    spec_PlainEnd.l0 k s p flow q = some (backW s p (peN s p flow d q - p).toNat) := by
  induction d with
  | zero =>
    intro k q hq hd hk
    obtain ⟨k, rfl⟩ : ∃ m, k = m + 1 := ⟨k - 1, by omega⟩
    simp (disch := omega) only [spec_PlainEnd.l0, spec_l03Break_ok, byteM_end, br_end, Option.bind_some, if_true, peN]
    exact spec_PlainEnd_end s hs p q h0 hq (by omega) k (by omega)
  | succ d ih =>
    intro k q hq hd hk
    obtain ⟨k, rfl⟩ : ∃ m, k = m + 2 := ⟨k - 2, by omega⟩
    have hlt : q < s.size := by omega
    have hb0 := byteM_in (s := s) (p := q) (by omega) hlt
    have key : (spec_PlainEnd.l0 (k + 2) s p flow q) = if brB (byteM s q) = true then spec_PlainEnd.j2 (k + 1) s p q else if (decide (byteM s q = 35 ∧ q > p ∧ whB (byteM s (q - 1)) = true) || (flow && flB (byteM s q))) = true then spec_PlainEnd.j2 k s p q else spec_PlainEnd.j1 (k + 1) s p flow q false := by
      rw [spec_PlainEnd.l0]
      rw [spec_l03Break_ok s q (by omega), Option.bind_some]
      split
      · rfl
      · have hq0 : 0 ≤ q := by omega
        try rw [if_pos hq0]
        try rw [if_pos hlt]
        rw [hb0]
        by_cases c35 : bt s q = 35
        · rw [if_pos c35]
          by_cases cp : q > p
          · rw [if_pos cp, w64 (by omega) (by omega), spec_l03White_ok s (q - 1) (by omega), Option.bind_some]
            cases hw : whB (byteM s (q - 1)) with
            | true => rw [if_pos rfl, spec_PlainEnd_j1t]; simp [c35, cp]
            | false => cases flow <;> simp [spec_l04Flow_ok] <;> cases flB (bt s q) <;> simp [spec_PlainEnd_j1t]
          · rw [if_neg cp]
            cases flow <;> simp [spec_l04Flow_ok, cp] <;> cases flB (bt s q) <;> simp [spec_PlainEnd_j1t]
        · rw [if_neg c35]
          cases flow <;> simp [spec_l04Flow_ok, c35] <;> cases flB (bt s q) <;> simp [spec_PlainEnd_j1t]
    rw [key, spec_PlainEnd_j1f s p q flow hs (by omega) hlt k]
    simp only [peN, peStop]
    split
    · exact spec_PlainEnd_end s hs p q h0 hq (by omega) (k + 1) (by omega)
    · by_cases h1 : (decide (byteM s q = 35 ∧ q > p ∧ whB (byteM s (q - 1)) = true) || (flow && flB (byteM s q))) = true
      · rw [if_pos h1]
        simp only [h1, if_true, Bool.true_or]
        exact spec_PlainEnd_end s hs p q h0 hq (by omega) k (by omega)
      · rw [if_neg h1]
        simp only [Bool.not_eq_true] at h1
        simp only [h1, Bool.false_or]
        split
        · exact spec_PlainEnd_end s hs p q h0 hq (by omega) k (by omega)
        · exact ih k (q + 1) (by omega) (by omega) (by omega)
theorem spec_PlainEnd_ok (s : ByteArray) (p : Int) (flow : Bool) (hs : s.size ≤ 140737488351232) (k : Nat) (hk : 3 * s.size + 4 ≤ k) : spec_PlainEnd.f k s p flow = some (plainEndM s p flow) := by
  have h0 := spotM_lo s p
  have h1 := spotM_hi s p
  simp only [spec_PlainEnd.f, spec_l01P_ok, Option.bind_some]
  exact spec_PlainEnd_l0 s hs _ h0 flow _ k _ (Int.le_refl _) (by omega) (by omega)

theorem impl_isBreak_ok (b : Int) : impl_isBreak.f b = some (brB b) := by
  unfold impl_isBreak.f brB
  by_cases h : b = 10
  · simp [h]
  · rw [if_neg h]; simp [h]

theorem impl_spot_ok (s : ByteArray) (p : Int) : impl_spot.f s p = some (spotM s p) := by
  unfold impl_spot.f; rw [mn_mx_spotM]

theorem impl_byteAt_ok (s : ByteArray) (p : Int) : impl_byteAt.f s p = some (byteM s p) := by
  have h0 := spotM_lo s p
  have h1 := spotM_hi s p
  have h2 := bt_lo s (spotM s p)
  have h3 := bt_hi s (spotM s p)
  simp only [impl_byteAt.f, impl_spot_ok, Option.bind_some]
  unfold byteM
  by_cases h : spotM s p = (s.size : Int)
  · rw [if_pos h, if_pos h]
  · rw [if_neg h, if_neg h, if_pos h0, if_pos (by omega), w64 (by omega) (by omega)]

theorem impl_isWhite_ok (b : Int) : impl_isWhite.f b = some (whB b) := by
  unfold impl_isWhite.f
  by_cases h : b = 32
  · rw [if_pos h, whB_iff.mpr (.inl h)]
  · rw [if_neg h]
    by_cases h9 : b = 9
    · rw [h9]; rfl
    · rw [whB_not.mpr (by omega)]; simp [h9]

theorem impl_gapAt_ok (s : ByteArray) (p : Int) : impl_gapAt.f s p = some (gapB (byteM s p)) := by
  simp only [impl_gapAt.f, impl_byteAt_ok, impl_isWhite_ok, impl_isBreak_ok, Option.bind_some, gapB_eq]
  cases whB (byteM s p) <;> rfl

theorem impl_isFlow_ok (b : Int) : impl_isFlow.f b = some (flB b) := by
  unfold impl_isFlow.f flB
  by_cases h1 : b = 44
  · simp [h1]
  · by_cases h2 : b = 91
    · simp [h2]
    · by_cases h3 : b = 93
      · simp [h3]
      · by_cases h4 : b = 123
        · simp [h4]
        · by_cases h5 : b = 125
          · simp [h5]
          · simp [h1, h2, h3, h4, h5]

theorem impl_PlainEnd_l1 (s : ByteArray) (hs : s.size ≤ 140737488351232) (p : Int) (h0 : 0 ≤ p) (n : Nat) : ∀ (k : Nat), p + n ≤ s.size → n < k → impl_PlainEnd.l1 k s p (p + n) = some (backW s p n) := by
  induction n with
  | zero =>
    intro k h1 hk
    obtain ⟨k, rfl⟩ : ∃ m, k = m + 1 := ⟨k - 1, by omega⟩
    simp (disch := omega) only [impl_PlainEnd.l1, if_neg, backW]
    congr 1; omega
  | succ n ih =>
    intro k h1 hk
    obtain ⟨k, rfl⟩ : ∃ m, k = m + 1 := ⟨k - 1, by omega⟩
    have e : p + ((n + 1 : Nat) : Int) - 1 = p + n := by omega
    simp (disch := omega) only [impl_PlainEnd.l1, if_pos, w64]
    rw [e, impl_byteAt_ok, Option.bind_some, impl_isWhite_ok, Option.bind_some, byteM_in (by omega) (by omega)]
    simp only [backW]
    cases hw : whB (bt s (p + n)) with
    | true => rw [if_pos rfl, if_pos rfl]; exact ih k (by omega) (by omega)
    | false => rw [if_neg (by decide), if_neg (by decide)]; congr 1; omega
theorem impl_PlainEnd_end (s : ByteArray) (hs : s.size ≤ 140737488351232) (p q : Int) (h0 : 0 ≤ p) (hq : p ≤ q) (hq1 : q ≤ s.size) (k : Nat) (hk : s.size + 1 < k) : impl_PlainEnd.j2 k s p q = some (backW s p (q - p).toNat) := by
  obtain ⟨k, rfl⟩ : ∃ m, k = m + 1 := ⟨k - 1, by omega⟩
  simp only [impl_PlainEnd.j2]
  obtain ⟨n, rfl⟩ : ∃ n : Nat, q = p + n := ⟨(q - p).toNat, by omega⟩
  rw [show (p + n - p).toNat = n by omega]
  exact impl_PlainEnd_l1 s hs p h0 n k hq1 (by omega)
theorem impl_PlainEnd_j1 (s : ByteArray) (p q : Int) (flow n : Bool) (b : Int) (hs : s.size ≤ 140737488351232) (h0 : 0 ≤ p) (hq : p ≤ q) (h1 : q < s.size) (k : Nat) : impl_PlainEnd.j1 (k + 1) s p flow q b n =
    if (decide (b = 35 ∧ q > p ∧ whB (byteM s (q - 1)) = true) || (flow && flB b) || (decide (b = 58) && n)) = true then impl_PlainEnd.j2 k s p q else impl_PlainEnd.l0 k s p flow (q + 1) := by
  have e1 : wrap64 (q - 1) = q - 1 := w64 (by omega) (by omega)
  have e2 : wrap64 (q + 1) = q + 1 := w64 (by omega) (by omega)
  rw [impl_PlainEnd.j1]
  simp only [e1, e2, impl_byteAt_ok, impl_isWhite_ok, impl_isFlow_ok, Option.bind_some]
  by_cases c35 : b = 35
  · subst c35
    by_cases cp : q > p
    · cases hw : whB (byteM s (q - 1)) <;> cases flow <;> cases hf : flB 35 <;> simp [cp]
    · cases flow <;> cases hf : flB 35 <;> simp [cp]
  · by_cases c58 : b = 58
    · subst c58
      cases n <;> cases flow <;> cases hf : flB 58 <;> simp
    · cases flow <;> cases hf : flB b <;> simp [c35, c58]
theorem impl_PlainEnd_l0 (s : ByteArray) (hs : s.size ≤ 140737488351232) (p : Int) (h0 : 0 ≤ p) (flow : Bool) (d : Nat) : ∀ (k : Nat) (q : Int), p ≤ q → (s.size : Int) - q = d → s.size + 4 + 2 * d ≤ k →
    impl_PlainEnd.l0 k s p flow q = some (backW s p (peN s p flow d q - p).toNat) := by
  induction d with
  | zero =>
    intro k q hq hd hk
    obtain ⟨k, rfl⟩ : ∃ m, k = m + 1 := ⟨k - 1, by omega⟩
    simp (disch := omega) only [impl_PlainEnd.l0, impl_byteAt_ok, impl_isBreak_ok, byteM_end, br_end, Option.bind_some, if_true, peN]
    exact impl_PlainEnd_end s hs p q h0 hq (by omega) k (by omega)
  | succ d ih =>
    intro k q hq hd hk
    obtain ⟨k, rfl⟩ : ∃ m, k = m + 2 := ⟨k - 2, by omega⟩
    have hlt : q < s.size := by omega
    have key : (impl_PlainEnd.l0 (k + 2) s p flow q) = if brB (byteM s q) = true then impl_PlainEnd.j2 (k + 1) s p q else impl_PlainEnd.j1 (k + 1) s p flow q (byteM s q) (gapB (byteM s (q + 1)) || (flow && flB (byteM s (q + 1)))) := by
      rw [impl_PlainEnd.l0]
      have e2 : wrap64 (q + 1) = q + 1 := w64 (by omega) (by omega)
      simp only [e2, impl_byteAt_ok, impl_isBreak_ok, impl_gapAt_ok, impl_isFlow_ok, Option.bind_some]
      cases brB (byteM s q) <;> cases gapB (byteM s (q + 1)) <;> cases flow <;> simp
    have j : impl_PlainEnd.j1 (k + 1) s p flow q (byteM s q) (gapB (byteM s (q + 1)) || (flow && flB (byteM s (q + 1)))) = if peStop s p flow q = true then impl_PlainEnd.j2 k s p q else impl_PlainEnd.l0 k s p flow (q + 1) := by
      rw [impl_PlainEnd_j1 s p q flow _ _ hs h0 hq hlt k]; rfl
    rw [key, j]
    simp only [peN]
    by_cases hb : brB (byteM s q) = true
    · rw [if_pos hb, if_pos hb]
      exact impl_PlainEnd_end s hs p q h0 hq (by omega) (k + 1) (by omega)
    · rw [if_neg hb, if_neg hb]
      by_cases hc : peStop s p flow q = true
      · rw [if_pos hc, if_pos hc]
        exact impl_PlainEnd_end s hs p q h0 hq (by omega) k (by omega)
      · rw [if_neg hc, if_neg hc]
        exact ih k (q + 1) (by omega) (by omega) (by omega)
theorem impl_PlainEnd_ok (s : ByteArray) (p : Int) (flow : Bool) (hs : s.size ≤ 140737488351232) (k : Nat) (hk : 3 * s.size + 4 ≤ k) : impl_PlainEnd.f k s p flow = some (plainEndM s p flow) := by
  have h0 := spotM_lo s p
  have h1 := spotM_hi s p
  simp only [impl_PlainEnd.f, impl_spot_ok, Option.bind_some]
  exact impl_PlainEnd_l0 s hs _ h0 flow _ k _ (Int.le_refl _) (by omega) (by omega)

theorem FnExactPlainEnd : laws_FnExactPlainEnd.Pure := by
  intro s p flow hs hp
  by_cases h : (s.size : Int) > 1048576
  · exact ⟨0, by simp only [laws_FnExactPlainEnd.f, if_pos h]⟩
  · refine ⟨3 * s.size + 100, ?_⟩
    simp (disch := omega) only [laws_FnExactPlainEnd.f, if_neg, spec_PlainEnd_ok, impl_PlainEnd_ok, Option.bind_some, if_true]

end Go.Proofs.Ytnkbmfbmcpdcpaa.Pure
