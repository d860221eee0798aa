/- For every text of at most 2^20 bytes, every place and both ways, the program's PlainFirst answers as the reference's does; no condition beyond the statement's own. -/
import Derived.Test.YtnkbmfbmcpdcpaaPFnExactPlainFirstx0
import Derived.Test.YtnkbmfbmcpdcpaaPFnExactPlainFirstx1
import Derived.Test.YtnkbmfbmcpdcpaaPFnExactPlainFirstx2
import Derived.Test.YtnkbmfbmcpdcpaaIx
import Derived.Test.YtnkbmfbmcpdcpaaLst
import Derived.Test.YtnkbmfbmcpdcpaaMine
import Derived.Test.YtnkbmfbmcpdcpaaPla
import Derived.Test.YtnkbmfbmcpdcpaaTxt
namespace Go.Proofs.Ytnkbmfbmcpdcpaa.Pure
open Go.RowKit Go.Proofs.Ytnkbmfbmcpdcpaa.PFnExactPlainFirst Go.Proofs.YtnkbmfbmcpdcpaaW.PrintWords Go.Proofs.YtnkbmfbmcpdcpaaW.PrintLast Go.Proofs.YtnkbmfbmcpdcpaaW.PrintMore Go.Proofs.Ytnkbmfbmcpdcpaa.Mine

theorem spec_l01P_ok (s : ByteArray) (p : Int) : spec_l01P.f s p = some (spotM s p) := by
  unfold spec_l01P.f spotM
  split
  · rfl
  · split <;> rfl

theorem spec_l03Break_ok (s : ByteArray) (p : Int) (h0 : 0 ≤ p) : spec_l03Break.f s p = some (brB (byteM s p)) := by
  unfold spec_l03Break.f
  by_cases h : p < s.size
  · rw [if_neg (by omega), if_pos h0, if_pos h, byteM_in h0 h]
    have := bt_lo s p
    by_cases h10 : bt s p = 10
    · rw [h10]; rfl
    · rw [brB_not.mpr (by omega)]; simp [h10]
  · rw [if_pos (by omega), byteM_end (by omega)]; rfl

theorem spec_l03White_in (s : ByteArray) (p : Int) (h0 : 0 ≤ p) (h1 : p < s.size) : spec_l03White.f s p = some (whB (bt s p)) := by
  simp (disch := omega) only [spec_l03White.f, if_pos]
  by_cases h : bt s p = 32
  · rw [if_pos h, whB_iff.mpr (.inl h)]
  · rw [if_neg h]
    by_cases h9 : bt s p = 9
    · rw [h9]; rfl
    · rw [whB_not.mpr (by omega)]; simp [h9]
theorem spec_l03White_end (s : ByteArray) (p : Int) (h1 : (s.size : Int) ≤ p) : spec_l03White.f s p = some false := by
  simp (disch := omega) only [spec_l03White.f, if_neg]
theorem spec_l03White_ok (s : ByteArray) (p : Int) (h0 : 0 ≤ p) : spec_l03White.f s p = some (whB (byteM s p)) := by
  by_cases h : p < s.size
  · rw [spec_l03White_in s p h0 h, byteM_in h0 h]
  · rw [spec_l03White_end s p (by omega), byteM_end (by omega)]; rfl

theorem spec_l03Gap_ok (s : ByteArray) (p : Int) (h0 : 0 ≤ p) : spec_l03Gap.f s p = some (gapB (byteM s p)) := by
  simp only [spec_l03Gap.f, spec_l03White_ok s p h0, spec_l03Break_ok s p h0, Option.bind_some, gapB_eq]
  cases whB (byteM s p) <;> rfl

theorem spec_l04Flow_ok (b : Int) : spec_l04Flow.f b = some (flB b) := by
  unfold spec_l04Flow.f flB
  by_cases h1 : b = 44
  · simp [h1]
  · by_cases h2 : b = 91
    · simp [h2]
    · by_cases h3 : b = 93
      · simp [h3]
      · by_cases h4 : b = 123
        · simp [h4]
        · by_cases h5 : b = 125
          · simp [h5]
          · simp [h1, h2, h3, h4, h5]

theorem spec_PlainFirst_j1 (s : ByteArray) (q : Int) (flow b : Bool) (hs : s.size ≤ 140737488351232) (h0 : 0 ≤ q) (h1 : q ≤ s.size) (k : Nat) (hk : 1 ≤ k) :
    spec_PlainFirst.j1 k s q flow b = some (b || (!gapB (byteM s (q + 1)) && !(flow && flB (byteM s (q + 1))))) := by
  obtain ⟨k, rfl⟩ : ∃ m, k = m + 1 := ⟨k - 1, by omega⟩
  rw [spec_PlainFirst.j1]
  cases b with
  | true => rfl
  | false =>
    rw [if_neg (by decide), w64 (n := q + 1) (by omega) (by omega), spec_l03Gap_ok s (q + 1) (by omega), Option.bind_some]
    cases hg : gapB (byteM s (q + 1)) with
    | true => rfl
    | false =>
      rw [if_neg (by decide)]
      cases flow with
      | false => rfl
      | true =>
        have hq := gap_pos (s := s) (q := q + 1) (by omega) hg
        rw [if_pos rfl, if_pos (by omega), if_pos hq, spec_l04Flow_ok, Option.bind_some, byteM_in (by omega) hq]
        rfl
theorem spec_PlainFirst_l0 (s : ByteArray) (q : Int) (flow : Bool) (hs : s.size ≤ 140737488351232) (h0 : 0 ≤ q) (h1 : q < s.size) (y : List Int) (hy : y.length ≤ 1000) (d : Nat) : ∀ (k : Nat) (i : Int), 0 ≤ i → i ≤ y.length → (y.length : Int) - i = d → d + 2 ≤ k →
    spec_PlainFirst.l0 k s q flow y (y.length : Int) i = some (!((y.drop i.toNat).any (fun x => decide (bt s q = x))) && (!leadB (bt s q) || (!gapB (byteM s (q + 1)) && !(flow && flB (byteM s (q + 1)))))) := by
  induction d with
  | zero =>
    intro k i hi hi2 hd hk
    obtain ⟨k, rfl⟩ : ∃ m, k = m + 1 := ⟨k - 1, by omega⟩
    rw [spec_PlainFirst.l0, if_neg (by omega), if_pos h0, if_pos h1, drop_end _ _ (by omega)]
    by_cases a1 : bt s q = 45
    · rw [if_pos a1, spec_PlainFirst_j1 s q flow false hs h0 (by omega) k (by omega), a1]; rfl
    · rw [if_neg a1]
      by_cases a2 : bt s q = 63
      · rw [if_pos a2, spec_PlainFirst_j1 s q flow false hs h0 (by omega) k (by omega), a2]; rfl
      · rw [if_neg a2, spec_PlainFirst_j1 s q flow _ hs h0 (by omega) k (by omega)]
        have : (bt s q != 58) = !leadB (bt s q) := by
          by_cases a3 : bt s q = 58
          · rw [a3]; rfl
          · rw [leadB_not.mpr (by omega), bne_iff_ne.mpr a3]; rfl
        rw [this]; rfl
  | succ d ih =>
    intro k i hi hi2 hd hk
    obtain ⟨k, rfl⟩ : ∃ m, k = m + 1 := ⟨k - 1, by omega⟩
    rw [spec_PlainFirst.l0, if_pos (by omega), if_pos hi, if_pos (by omega), if_pos h0, if_pos h1, drop_at 0 y i hi (by omega), List.any_cons]
    show (if bt s q = y.getD i.toNat 0 then _ else _) = _
    by_cases c : bt s q = y.getD i.toNat 0
    · rw [if_pos c, decide_eq_true c]; rfl
    · rw [if_neg c, decide_eq_false c, w64 (n := i + 1) (by omega) (by omega), ih k (i + 1) (by omega) (by omega) (by omega) (by omega), Bool.false_or]
theorem spec_PlainFirst_ok (s : ByteArray) (p : Int) (flow : Bool) (hs : s.size ≤ 140737488351232) (k : Nat) (hk : 20 ≤ k) : spec_PlainFirst.f k s p flow = some (plainFirstM s p flow) := by
  unfold spec_PlainFirst.f plainFirstM
  have h0 := spotM_lo s p
  have h1 := spotM_hi s p
  rw [spec_l01P_ok, Option.bind_some, spec_l03Gap_ok s _ h0, Option.bind_some]
  generalize spotM s p = q at h0 h1 ⊢
  cases hg : gapB (byteM s q) with
  | true => rfl
  | false =>
    have hq := gap_pos h0 hg
    rw [if_neg (by decide), Option.bind_some]
    show spec_PlainFirst.l0 k s q flow badL (badL.length : Int) 0 = _
    rw [spec_PlainFirst_l0 s q flow hs h0 hq badL (by decide) 16 k 0 (by omega) (by decide) (by decide) (by omega), byteM_in h0 hq]
    rfl

theorem impl_spot_ok (s : ByteArray) (p : Int) : impl_spot.f s p = some (spotM s p) := by
  unfold impl_spot.f; rw [mn_mx_spotM]

theorem impl_byteAt_ok (s : ByteArray) (p : Int) : impl_byteAt.f s p = some (byteM s p) := by
  have h0 := spotM_lo s p
  have h1 := spotM_hi s p
  have h2 := bt_lo s (spotM s p)
  have h3 := bt_hi s (spotM s p)
  simp only [impl_byteAt.f, impl_spot_ok, Option.bind_some]
  unfold byteM
  by_cases h : spotM s p = (s.size : Int)
  · rw [if_pos h, if_pos h]
  · rw [if_neg h, if_neg h, if_pos h0, if_pos (by omega), w64 (by omega) (by omega)]

theorem impl_isBreak_ok (b : Int) : impl_isBreak.f b = some (brB b) := by
  unfold impl_isBreak.f brB
  by_cases h : b = 10
  · simp [h]
  · rw [if_neg h]; simp [h]

theorem impl_isWhite_ok (b : Int) : impl_isWhite.f b = some (whB b) := by
  unfold impl_isWhite.f
  by_cases h : b = 32
  · rw [if_pos h, whB_iff.mpr (.inl h)]
  · rw [if_neg h]
    by_cases h9 : b = 9
    · rw [h9]; rfl
    · rw [whB_not.mpr (by omega)]; simp [h9]

theorem impl_gapAt_ok (s : ByteArray) (p : Int) : impl_gapAt.f s p = some (gapB (byteM s p)) := by
  simp only [impl_gapAt.f, impl_byteAt_ok, impl_isWhite_ok, impl_isBreak_ok, Option.bind_some, gapB_eq]
  cases whB (byteM s p) <;> rfl

theorem impl_isFlow_ok (b : Int) : impl_isFlow.f b = some (flB b) := by
  unfold impl_isFlow.f flB
  by_cases h1 : b = 44
  · simp [h1]
  · by_cases h2 : b = 91
    · simp [h2]
    · by_cases h3 : b = 93
      · simp [h3]
      · by_cases h4 : b = 123
        · simp [h4]
        · by_cases h5 : b = 125
          · simp [h5]
          · simp [h1, h2, h3, h4, h5]

theorem impl_PlainFirst_j1 (s : ByteArray) (q : Int) (flow b : Bool) (hs : s.size ≤ 140737488351232) (h0 : 0 ≤ q) (h1 : q ≤ s.size) (k : Nat) (hk : 1 ≤ k) :
    impl_PlainFirst.j1 k s q flow b = some (!b || (!gapB (byteM s (q + 1)) && !(flow && flB (byteM s (q + 1))))) := by
  obtain ⟨k, rfl⟩ : ∃ m, k = m + 1 := ⟨k - 1, by omega⟩
  rw [impl_PlainFirst.j1, w64 (n := q + 1) (by omega) (by omega)]
  simp only [impl_gapAt_ok, impl_byteAt_ok, impl_isFlow_ok, Option.bind_some]
  cases b <;> cases gapB (byteM s (q + 1)) <;> cases flow <;> rfl
theorem impl_PlainFirst_j0 (s : ByteArray) (q : Int) (flow b : Bool) (hs : s.size ≤ 140737488351232) (h0 : 0 ≤ q) (h1 : q ≤ s.size) (c : Int) (k : Nat) (hk : 2 ≤ k) :
    impl_PlainFirst.j0 k s q flow c b = some (!b && (!leadB c || (!gapB (byteM s (q + 1)) && !(flow && flB (byteM s (q + 1)))))) := by
  obtain ⟨k, rfl⟩ : ∃ m, k = m + 1 := ⟨k - 1, by omega⟩
  rw [impl_PlainFirst.j0]
  cases b with
  | true => rfl
  | false =>
    rw [if_neg (by decide)]
    by_cases a1 : c = 45
    · rw [if_pos a1, impl_PlainFirst_j1 s q flow true hs h0 h1 k (by omega), a1]; rfl
    · rw [if_neg a1]
      by_cases a2 : c = 63
      · rw [if_pos a2, impl_PlainFirst_j1 s q flow true hs h0 h1 k (by omega), a2]; rfl
      · rw [if_neg a2, impl_PlainFirst_j1 s q flow _ hs h0 h1 k (by omega)]
        have : (c == 58) = leadB c := by
          by_cases a3 : c = 58
          · rw [a3]; rfl
          · rw [leadB_not.mpr (by omega), beq_eq_false_iff_ne.mpr a3]
        rw [this]; rfl
theorem impl_PlainFirst_ok (s : ByteArray) (p : Int) (flow : Bool) (hs : s.size ≤ 140737488351232) (k : Nat) (hk : 20 ≤ k) : impl_PlainFirst.f k s p flow = some (plainFirstM s p flow) := by
  unfold impl_PlainFirst.f plainFirstM
  have h0 := spotM_lo s p
  have h1 := spotM_hi s p
  rw [impl_spot_ok, Option.bind_some, impl_byteAt_ok, Option.bind_some, impl_gapAt_ok, Option.bind_some]
  generalize spotM s p = q at h0 h1 ⊢
  simp only [impl_PlainFirst_j0 s q flow _ hs h0 h1 _ k (by omega : 2 ≤ k), strings_IndexByte.f, Option.bind_some]
  cases hg : gapB (byteM s q) with
  | true => rfl
  | false =>
    have hq := gap_pos h0 hg
    rw [if_neg (by decide), byteM_in h0 hq, badB_ix (bt_lo s q) (bt_hi s q)]
    by_cases a1 : bt s q = 64
    · rw [if_pos a1, decide_eq_true a1]; rfl
    · rw [if_neg a1, decide_eq_false a1]
      by_cases a2 : bt s q = 96
      · rw [if_pos a2, decide_eq_true a2]; rfl
      · rw [if_neg a2, decide_eq_false a2, Bool.false_or, Bool.false_or]; rfl

theorem FnExactPlainFirst : laws_FnExactPlainFirst.Pure := by
  intro s p flow hs hp
  by_cases h : (s.size : Int) > 1048576
  · exact ⟨0, by simp only [laws_FnExactPlainFirst.f, if_pos h]⟩
  · refine ⟨3 * s.size + 100, ?_⟩
    simp (disch := omega) only [laws_FnExactPlainFirst.f, if_neg, spec_PlainFirst_ok, impl_PlainFirst_ok, Option.bind_some, bne_self_eq_false, Bool.false_eq_true, if_false]

end Go.Proofs.Ytnkbmfbmcpdcpaa.Pure
