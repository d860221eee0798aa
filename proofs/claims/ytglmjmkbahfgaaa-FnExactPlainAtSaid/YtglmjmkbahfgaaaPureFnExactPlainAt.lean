/- For every text of at most 2^20 bytes, every place, indent and both ways, the program's PlainAt answers as the reference's does; no condition beyond the statement's own. -/
import Derived.Test.YtglmjmkbahfgaaaPFnExactPlainAtx0
import Derived.Test.YtglmjmkbahfgaaaPFnExactPlainAtx1
import Derived.Test.YtglmjmkbahfgaaaPFnExactPlainAtx2
import Derived.Test.YtglmjmkbahfgaaaPFnExactPlainAtx3
import Derived.Test.YtglmjmkbahfgaaaPFnExactPlainAtx4
import Derived.Test.YtglmjmkbahfgaaaPFnExactPlainAtx5
import Derived.Test.YtglmjmkbahfgaaaPFnExactPlainAtx6
import Derived.Test.YtglmjmkbahfgaaaPFnExactPlainAtx7
import Derived.Test.YtglmjmkbahfgaaaPFnExactPlainAtx8
import Derived.Test.YtglmjmkbahfgaaaPFnExactPlainAtx9
import Derived.Test.YtglmjmkbahfgaaaPFnExactPlainAtx10
import Derived.Test.YtglmjmkbahfgaaaIx
import Derived.Test.YtglmjmkbahfgaaaLst
import Derived.Test.YtglmjmkbahfgaaaMine
import Derived.Test.YtglmjmkbahfgaaaPla
import Derived.Test.YtglmjmkbahfgaaaTxt
namespace Go.Proofs.Ytglmjmkbahfgaaa.Pure
open Go.RowKit Go.Proofs.Ytglmjmkbahfgaaa.PFnExactPlainAt Go.Proofs.YtglmjmkbahfgaaaW.PrintWords Go.Proofs.YtglmjmkbahfgaaaW.PrintLast Go.Proofs.YtglmjmkbahfgaaaW.PrintMore Go.Proofs.Ytglmjmkbahfgaaa.Mine

def pr58 (x : S58) : ByteArray × Bool := (x.f0, x.f1)
theorem spec_l01P_ok (s : ByteArray) (p : Int) : spec_l01P.f s p = some (spotM s p) := by
  unfold spec_l01P.f spotM
  split
  · rfl
  · split <;> rfl

theorem spec_l03Break_ok (s : ByteArray) (p : Int) (h0 : 0 ≤ p) : spec_l03Break.f s p = some (brB (byteM s p)) := by
  unfold spec_l03Break.f
  by_cases h : p < s.size
  · rw [if_neg (by omega), if_pos h0, if_pos h, byteM_in h0 h]
    have := bt_lo s p
    by_cases h10 : bt s p = 10
    · rw [h10]; rfl
    · rw [brB_not.mpr (by omega)]; simp [h10]
  · rw [if_pos (by omega), byteM_end (by omega)]; rfl

theorem spec_l03White_in (s : ByteArray) (p : Int) (h0 : 0 ≤ p) (h1 : p < s.size) : spec_l03White.f s p = some (whB (bt s p)) := by
  simp (disch := omega) only [spec_l03White.f, if_pos]
  by_cases h : bt s p = 32
  · rw [if_pos h, whB_iff.mpr (.inl h)]
  · rw [if_neg h]
    by_cases h9 : bt s p = 9
    · rw [h9]; rfl
    · rw [whB_not.mpr (by omega)]; simp [h9]
theorem spec_l03White_end (s : ByteArray) (p : Int) (h1 : (s.size : Int) ≤ p) : spec_l03White.f s p = some false := by
  simp (disch := omega) only [spec_l03White.f, if_neg]
theorem spec_l03White_ok (s : ByteArray) (p : Int) (h0 : 0 ≤ p) : spec_l03White.f s p = some (whB (byteM s p)) := by
  by_cases h : p < s.size
  · rw [spec_l03White_in s p h0 h, byteM_in h0 h]
  · rw [spec_l03White_end s p (by omega), byteM_end (by omega)]; rfl

theorem spec_l03Gap_ok (s : ByteArray) (p : Int) (h0 : 0 ≤ p) : spec_l03Gap.f s p = some (gapB (byteM s p)) := by
  simp only [spec_l03Gap.f, spec_l03White_ok s p h0, spec_l03Break_ok s p h0, Option.bind_some, gapB_eq]
  cases whB (byteM s p) <;> rfl

theorem spec_l04Flow_ok (b : Int) : spec_l04Flow.f b = some (flB b) := by
  unfold spec_l04Flow.f flB
  by_cases h1 : b = 44
  · simp [h1]
  · by_cases h2 : b = 91
    · simp [h2]
    · by_cases h3 : b = 93
      · simp [h3]
      · by_cases h4 : b = 123
        · simp [h4]
        · by_cases h5 : b = 125
          · simp [h5]
          · simp [h1, h2, h3, h4, h5]

theorem spec_PlainFirst_j1 (s : ByteArray) (q : Int) (flow b : Bool) (hs : s.size ≤ 140737488351232) (h0 : 0 ≤ q) (h1 : q ≤ s.size) (k : Nat) (hk : 1 ≤ k) :
    spec_PlainFirst.j1 k s q flow b = some (b || (!gapB (byteM s (q + 1)) && !(flow && flB (byteM s (q + 1))))) := by
  obtain ⟨k, rfl⟩ : ∃ m, k = m + 1 := ⟨k - 1, by omega⟩
  rw [spec_PlainFirst.j1]
  cases b with
  | true => rfl
  | false =>
    rw [if_neg (by decide), w64 (n := q + 1) (by omega) (by omega), spec_l03Gap_ok s (q + 1) (by omega), Option.bind_some]
    cases hg : gapB (byteM s (q + 1)) with
    | true => rfl
    | false =>
      rw [if_neg (by decide)]
      cases flow with
      | false => rfl
      | true =>
        have hq := gap_pos (s := s) (q := q + 1) (by omega) hg
        rw [if_pos rfl, if_pos (by omega), if_pos hq, spec_l04Flow_ok, Option.bind_some, byteM_in (by omega) hq]
        rfl
theorem spec_PlainFirst_l0 (s : ByteArray) (q : Int) (flow : Bool) (hs : s.size ≤ 140737488351232) (h0 : 0 ≤ q) (h1 : q < s.size) (y : List Int) (hy : y.length ≤ 1000) (d : Nat) : ∀ (k : Nat) (i : Int), 0 ≤ i → i ≤ y.length → (y.length : Int) - i = d → d + 2 ≤ k →
    spec_PlainFirst.l0 k s q flow y (y.length : Int) i = some (!((y.drop i.toNat).any (fun x => decide (bt s q = x))) && (!leadB (bt s q) || (!gapB (byteM s (q + 1)) && !(flow && flB (byteM s (q + 1)))))) := by
  induction d with
  | zero =>
    intro k i hi hi2 hd hk
    obtain ⟨k, rfl⟩ : ∃ m, k = m + 1 := ⟨k - 1, by omega⟩
    rw [spec_PlainFirst.l0, if_neg (by omega), if_pos h0, if_pos h1, drop_end _ _ (by omega)]
    by_cases a1 : bt s q = 45
    · rw [if_pos a1, spec_PlainFirst_j1 s q flow false hs h0 (by omega) k (by omega), a1]; rfl
    · rw [if_neg a1]
      by_cases a2 : bt s q = 63
      · rw [if_pos a2, spec_PlainFirst_j1 s q flow false hs h0 (by omega) k (by omega), a2]; rfl
      · rw [if_neg a2, spec_PlainFirst_j1 s q flow _ hs h0 (by omega) k (by omega)]
        have : (bt s q != 58) = !leadB (bt s q) := by
          by_cases a3 : bt s q = 58
          · rw [a3]; rfl
          · rw [leadB_not.mpr (by omega), bne_iff_ne.mpr a3]; rfl
        rw [this]; rfl
  | succ d ih =>
    intro k i hi hi2 hd hk
    obtain ⟨k, rfl⟩ : ∃ m, k = m + 1 := ⟨k - 1, by omega⟩
    rw [spec_PlainFirst.l0, if_pos (by omega), if_pos hi, if_pos (by omega), if_pos h0, if_pos h1, drop_at 0 y i hi (by omega), List.any_cons]
    show (if bt s q = y.getD i.toNat 0 then _ else _) = _
    by_cases c : bt s q = y.getD i.toNat 0
    · rw [if_pos c, decide_eq_true c]; rfl
    · rw [if_neg c, decide_eq_false c, w64 (n := i + 1) (by omega) (by omega), ih k (i + 1) (by omega) (by omega) (by omega) (by omega), Bool.false_or]
theorem spec_PlainFirst_ok (s : ByteArray) (p : Int) (flow : Bool) (hs : s.size ≤ 140737488351232) (k : Nat) (hk : 20 ≤ k) : spec_PlainFirst.f k s p flow = some (plainFirstM s p flow) := by
  unfold spec_PlainFirst.f plainFirstM
  have h0 := spotM_lo s p
  have h1 := spotM_hi s p
  rw [spec_l01P_ok, Option.bind_some, spec_l03Gap_ok s _ h0, Option.bind_some]
  generalize spotM s p = q at h0 h1 ⊢
  cases hg : gapB (byteM s q) with
  | true => rfl
  | false =>
    have hq := gap_pos h0 hg
    rw [if_neg (by decide), Option.bind_some]
    show spec_PlainFirst.l0 k s q flow badL (badL.length : Int) 0 = _
    rw [spec_PlainFirst_l0 s q flow hs h0 hq badL (by decide) 16 k 0 (by omega) (by decide) (by decide) (by omega), byteM_in h0 hq]
    rfl

theorem spec_PlainEnd_l1 (s : ByteArray) (hs : s.size ≤ 140737488351232) (p : Int) (h0 : 0 ≤ p) (n : Nat) : ∀ (k : Nat), p + n ≤ s.size → n < k → spec_PlainEnd.l1 k s p (p + n) = some (backW s p n) := by
  induction n with
  | zero =>
    intro k h1 hk
    obtain ⟨k, rfl⟩ : ∃ m, k = m + 1 := ⟨k - 1, by omega⟩
    simp (disch := omega) only [spec_PlainEnd.l1, if_neg, backW]
    congr 1; omega
  | succ n ih =>
    intro k h1 hk
    obtain ⟨k, rfl⟩ : ∃ m, k = m + 1 := ⟨k - 1, by omega⟩
    have e : p + ((n + 1 : Nat) : Int) - 1 = p + n := by omega
    simp (disch := omega) only [spec_PlainEnd.l1, if_pos, w64]
    rw [e, spec_l03White_in s (p + n) (by omega) (by omega), Option.bind_some]
    simp only [backW]
    cases hw : whB (bt s (p + n)) with
    | true => rw [if_pos rfl, if_pos rfl]; exact ih k (by omega) (by omega)
    | false => rw [if_neg (by decide), if_neg (by decide)]; congr 1; omega
theorem spec_PlainEnd_end (s : ByteArray) (hs : s.size ≤ 140737488351232) (p q : Int) (h0 : 0 ≤ p) (hq : p ≤ q) (hq1 : q ≤ s.size) (k : Nat) (hk : s.size + 1 < k) : spec_PlainEnd.j2 k s p q = some (backW s p (q - p).toNat) := by
  obtain ⟨k, rfl⟩ : ∃ m, k = m + 1 := ⟨k - 1, by omega⟩
  simp only [spec_PlainEnd.j2]
  obtain ⟨n, rfl⟩ : ∃ n : Nat, q = p + n := ⟨(q - p).toNat, by omega⟩
  rw [show (p + n - p).toNat = n by omega]
  exact spec_PlainEnd_l1 s hs p h0 n k hq1 (by omega)
theorem spec_PlainEnd_j1t (s : ByteArray) (p q : Int) (flow : Bool) (k : Nat) : spec_PlainEnd.j1 (k + 1) s p flow q true = spec_PlainEnd.j2 k s p q := by
  simp only [spec_PlainEnd.j1, if_true]
theorem spec_PlainEnd_j1f (s : ByteArray) (p q : Int) (flow : Bool) (hs : s.size ≤ 140737488351232) (h0 : 0 ≤ q) (h1 : q < s.size) (k : Nat) : spec_PlainEnd.j1 (k + 1) s p flow q false =
    if (decide (byteM s q = 58) && (gapB (byteM s (q + 1)) || (flow && flB (byteM s (q + 1))))) = true then spec_PlainEnd.j2 k s p q else spec_PlainEnd.l0 k s p flow (q + 1) := by
  simp (disch := omega) only [spec_PlainEnd.j1, Bool.false_eq_true, if_false, if_pos, w64, spec_l03Gap_ok, Option.bind_some, byteM_in]
  by_cases c : bt s q = 58
  · rw [if_pos c, show decide (bt s q = 58) = true by simpa using c, Bool.true_and]
    cases hg : gapB (byteM s (q + 1)) with
    | true => simp
    | false =>
      have hq : q + 1 < s.size := by
        by_cases d : q + 1 < s.size
        · exact d
        · rw [byteM_end (by omega)] at hg; cases hg
      cases flow with
      | false => simp
      | true =>
        rw [if_neg (by decide), if_pos rfl, if_pos hq, spec_l04Flow_ok, Option.bind_some, byteM_in (by omega) hq]
        simp
  · rw [if_neg c, show decide (bt s q = 58) = false by simpa using c, Bool.false_and, if_neg (by decide)]
theorem spec_PlainEnd_l0 (s : ByteArray) (hs : s.size ≤ 140737488351232) (p : Int) (h0 : 0 ≤ p) (flow : Bool) (d : Nat) : ∀ (k : Nat) (q : Int), p ≤ q → (s.size : Int) - q = d → s.size + 4 + 2 * d ≤ k →
    spec_PlainEnd.l0 k s p flow q = some (backW s p (peN s p flow d q - p).toNat) := by
  induction d with
  | zero =>
    intro k q hq hd hk
    obtain ⟨k, rfl⟩ : ∃ m, k = m + 1 := ⟨k - 1, by omega⟩
    simp (disch := omega) only [spec_PlainEnd.l0, spec_l03Break_ok, byteM_end, br_end, Option.bind_some, if_true, peN]
    exact spec_PlainEnd_end s hs p q h0 hq (by omega) k (by omega)
  | succ d ih =>
    intro k q hq hd hk
    obtain ⟨k, rfl⟩ : ∃ m, k = m + 2 := ⟨k - 2, by omega⟩
    have hlt : q < s.size := by omega
    have hb0 := byteM_in (s := s) (p := q) (by omega) hlt
    have key : (spec_PlainEnd.l0 (k + 2) s p flow q) = if brB (byteM s q) = true then spec_PlainEnd.j2 (k + 1) s p q else if (decide (byteM s q = 35 ∧ q > p ∧ whB (byteM s (q - 1)) = true) || (flow && flB (byteM s q))) = true then spec_PlainEnd.j2 k s p q else spec_PlainEnd.j1 (k + 1) s p flow q false := by
      rw [spec_PlainEnd.l0]
      rw [spec_l03Break_ok s q (by omega), Option.bind_some]
      split
      · rfl
      · have hq0 : 0 ≤ q := by omega
        try rw [if_pos hq0]
        try rw [if_pos hlt]
        rw [hb0]
        by_cases c35 : bt s q = 35
        · rw [if_pos c35]
          by_cases cp : q > p
          · rw [if_pos cp, w64 (by omega) (by omega), spec_l03White_ok s (q - 1) (by omega), Option.bind_some]
            cases hw : whB (byteM s (q - 1)) with
            | true => rw [if_pos rfl, spec_PlainEnd_j1t]; simp [c35, cp]
            | false => cases flow <;> simp [spec_l04Flow_ok] <;> cases flB (bt s q) <;> simp [spec_PlainEnd_j1t]
          · rw [if_neg cp]
            cases flow <;> simp [spec_l04Flow_ok, cp] <;> cases flB (bt s q) <;> simp [spec_PlainEnd_j1t]
        · rw [if_neg c35]
          cases flow <;> simp [spec_l04Flow_ok, c35] <;> cases flB (bt s q) <;> simp [spec_PlainEnd_j1t]
    rw [key, spec_PlainEnd_j1f s p q flow hs (by omega) hlt k]
    simp only [peN, peStop]
    split
    · exact spec_PlainEnd_end s hs p q h0 hq (by omega) (k + 1) (by omega)
    · by_cases h1 : (decide (byteM s q = 35 ∧ q > p ∧ whB (byteM s (q - 1)) = true) || (flow && flB (byteM s q))) = true
      · rw [if_pos h1]
        simp only [h1, if_true, Bool.true_or]
        exact spec_PlainEnd_end s hs p q h0 hq (by omega) k (by omega)
      · rw [if_neg h1]
        simp only [Bool.not_eq_true] at h1
        simp only [h1, Bool.false_or]
        split
        · exact spec_PlainEnd_end s hs p q h0 hq (by omega) k (by omega)
        · exact ih k (q + 1) (by omega) (by omega) (by omega)
theorem spec_PlainEnd_ok (s : ByteArray) (p : Int) (flow : Bool) (hs : s.size ≤ 140737488351232) (k : Nat) (hk : 3 * s.size + 4 ≤ k) : spec_PlainEnd.f k s p flow = some (plainEndM s p flow) := by
  have h0 := spotM_lo s p
  have h1 := spotM_hi s p
  simp only [spec_PlainEnd.f, spec_l01P_ok, Option.bind_some]
  exact spec_PlainEnd_l0 s hs _ h0 flow _ k _ (Int.le_refl _) (by omega) (by omega)

theorem spec_White_l0 (s : ByteArray) (hs : s.size ≤ 140737488351232) (d : Nat) : ∀ (k : Nat) (i : Int), 0 ≤ i → i ≤ s.size → s.size - i ≤ d → d < k →
    spec_White.l0 k s i = some (upto noWh s i) := by
  induction d with
  | zero =>
    intro k i h0 h1 hd hk
    obtain ⟨k, rfl⟩ : ∃ m, k = m + 1 := ⟨k - 1, by omega⟩
    simp (disch := omega) only [spec_White.l0, spec_l03White_end, Option.bind_some, Bool.false_eq_true, if_false, upto_end]
  | succ d ih =>
    intro k i h0 h1 hd hk
    obtain ⟨k, rfl⟩ : ∃ m, k = m + 1 := ⟨k - 1, by omega⟩
    by_cases hi : i < s.size
    · simp (disch := omega) only [spec_White.l0, spec_l03White_in, Option.bind_some]
      by_cases hb : whB (bt s i) = true
      · rw [if_pos hb, upto_next hi (by simp [noWh, hb]), w64 (by omega) (by omega)]
        exact ih k (i + 1) (by omega) (by omega) (by omega) (by omega)
      · rw [if_neg hb, upto_hit hi (by simpa [noWh] using hb)]
    · simp (disch := omega) only [spec_White.l0, spec_l03White_end, Option.bind_some, Bool.false_eq_true, if_false, upto_end]
theorem spec_White_ok (s : ByteArray) (p : Int) (hs : s.size ≤ 140737488351232) (k : Nat) (hk : s.size < k) : spec_White.f k s p = some (whiteM s p) := by
  have h0 := spotM_lo s p
  have h1 := spotM_hi s p
  simp only [spec_White.f, spec_l01P_ok, Option.bind_some]
  exact spec_White_l0 s hs s.size k _ h0 h1 (by omega) hk

theorem spec_LineAt_l0 (s : ByteArray) (hs : s.size ≤ 140737488351232) (d : Nat) : ∀ (k : Nat) (i : Int), 0 ≤ i → i ≤ s.size → i ≤ d → d < k →
    spec_LineAt.l0 k s i = some (lastM 10 s i) := by
  induction d with
  | zero =>
    intro k i h0 h1 hd hk
    obtain ⟨k, rfl⟩ : ∃ m, k = m + 1 := ⟨k - 1, by omega⟩
    simp (disch := omega) only [spec_LineAt.l0, if_neg, lastM_neg]
    congr 1; omega
  | succ d ih =>
    intro k i h0 h1 hd hk
    obtain ⟨k, rfl⟩ : ∃ m, k = m + 1 := ⟨k - 1, by omega⟩
    by_cases hi : 0 < i
    · by_cases hb : bt s (i - 1) = 10
      · simp (disch := omega) only [spec_LineAt.l0, if_pos, w64, lastM_hit]
      · simp (disch := omega) only [spec_LineAt.l0, if_pos, if_neg, w64, lastM_prev]
        exact ih k (i - 1) (by omega) (by omega) (by omega) (by omega)
    · simp (disch := omega) only [spec_LineAt.l0, if_neg, lastM_neg]
      congr 1; omega
theorem spec_LineAt_ok (s : ByteArray) (p : Int) (hs : s.size ≤ 140737488351232) (k : Nat) (hk : s.size < k) : spec_LineAt.f k s p = some (lineM s p) := by
  have h0 := spotM_lo s p
  have h1 := spotM_hi s p
  simp only [spec_LineAt.f, spec_l01P_ok, Option.bind_some]
  exact spec_LineAt_l0 s hs s.size k _ h0 h1 h1 hk

theorem spec_Lone_ok (s : ByteArray) (p : Int) (hs : s.size ≤ 140737488351232) (k : Nat) (hk : s.size + 1 < k) : spec_Lone.f k s p = some (loneM s p) := by
  have h0 := lineM_lo s p
  have h1 := spotM_lo s (lineM s p)
  have h2 := whiteM_ge s (lineM s p)
  simp (disch := omega) only [spec_Lone.f, spec_LineAt_ok, spec_White_ok, spec_l03Break_ok, Option.bind_some, loneM]

theorem spec_EndAt_l0 (s : ByteArray) (hs : s.size ≤ 140737488351232) (d : Nat) : ∀ (k : Nat) (i : Int), 0 ≤ i → i ≤ s.size → s.size - i ≤ d → d < k →
    spec_EndAt.l0 k s i = some (upto isLf s i) := by
  induction d with
  | zero =>
    intro k i h0 h1 hd hk
    obtain ⟨k, rfl⟩ : ∃ m, k = m + 1 := ⟨k - 1, by omega⟩
    simp (disch := omega) only [spec_EndAt.l0, if_neg, upto_end]
  | succ d ih =>
    intro k i h0 h1 hd hk
    obtain ⟨k, rfl⟩ : ∃ m, k = m + 1 := ⟨k - 1, by omega⟩
    by_cases hi : i < s.size
    · by_cases hb : bt s i = 10
      · rw [upto_hit hi (isLf_iff.mpr hb)]
        simp (disch := omega) only [spec_EndAt.l0, if_pos, if_neg]
      · rw [upto_next hi (isLf_not.mpr hb)]
        simp (disch := omega) only [spec_EndAt.l0, if_pos, if_neg, w64]
        exact ih k (i + 1) (by omega) (by omega) (by omega) (by omega)
    · simp (disch := omega) only [spec_EndAt.l0, if_neg, upto_end]
theorem spec_EndAt_ok (s : ByteArray) (p : Int) (hs : s.size ≤ 140737488351232) (k : Nat) (hk : s.size < k) : spec_EndAt.f k s p = some (endM s p) := by
  have h0 := spotM_lo s p
  have h1 := spotM_hi s p
  simp only [spec_EndAt.f, spec_l01P_ok, Option.bind_some]
  exact spec_EndAt_l0 s hs s.size k _ h0 h1 (by omega) hk

theorem spec_MarkAt_ok (s : ByteArray) (p : Int) (hs : s.size ≤ 140737488351232) (k : Nat) (hk : s.size + 1 < k) : spec_MarkAt.f k s p = some (markM s p) := by
  have h0 := spotM_lo s p
  have h1 := spotM_hi s p
  obtain ⟨k, rfl⟩ : ∃ m, k = m + 1 := ⟨k - 1, by omega⟩
  simp (disch := omega) only [spec_MarkAt.f, spec_l01P_ok, spec_LineAt_ok, Option.bind_some, markM]
  generalize spotM s p = q at h0 h1 ⊢
  have jt : spec_MarkAt.j0 (k + 1) s q true = some 0 := by simp only [spec_MarkAt.j0, if_true]
  by_cases hl : lineM s q = q
  · rw [if_pos hl, w64 (by omega) (by omega)]
    by_cases h3 : (s.size : Int) - q < 3
    · rw [if_pos h3, jt, if_neg (by omega)]
    · rw [if_neg h3]
      simp (disch := omega) only [w64, spec_l03Gap_ok, Option.bind_some]
      cases hg : gapB (byteM s (q + 3)) with
      | false => rw [show (!false) = true from rfl, jt, if_neg (by simp)]
      | true =>
        rw [show (!true) = false from rfl, if_pos ⟨hl, by omega, rfl⟩]
        simp (disch := omega) only [spec_MarkAt.j0, Bool.false_eq_true, if_false, w64]
        rw [if_pos h0, if_pos (by omega), if_pos (by omega)]
        split
        · rfl
        · split <;> rfl
  · rw [if_neg hl, jt, if_neg (fun h => hl h.1)]

theorem spec_IndentAt_l0 (s : ByteArray) (hs : s.size ≤ 140737488351232) (a : Int) (ha : 0 ≤ a) (d : Nat) : ∀ (k : Nat) (i : Int), 0 ≤ i → a + i ≤ s.size → s.size - (a + i) ≤ d → d < k →
    spec_IndentAt.l0 k s a i = some (upto noBl s (a + i) - a) := by
  induction d with
  | zero =>
    intro k i h0 h1 hd hk
    obtain ⟨k, rfl⟩ : ∃ m, k = m + 1 := ⟨k - 1, by omega⟩
    simp (disch := omega) only [spec_IndentAt.l0, w64, if_neg, upto_end]
    congr 1; omega
  | succ d ih =>
    intro k i h0 h1 hd hk
    obtain ⟨k, rfl⟩ : ∃ m, k = m + 1 := ⟨k - 1, by omega⟩
    by_cases hi : a + i < s.size
    · by_cases hb : bt s (a + i) = 32
      · rw [upto_next hi (noBl_not.mpr hb)]
        simp (disch := omega) only [spec_IndentAt.l0, w64, if_pos]
        rw [ih k (i + 1) (by omega) (by omega) (by omega) (by omega)]
        rw [show a + (i + 1) = a + i + 1 by omega]
      · rw [upto_hit hi (noBl_iff.mpr hb)]
        simp (disch := omega) only [spec_IndentAt.l0, w64, if_pos, if_neg]
        congr 1; omega
    · simp (disch := omega) only [spec_IndentAt.l0, w64, if_neg, upto_end]
      congr 1; omega
theorem spec_IndentAt_ok (s : ByteArray) (p : Int) (hs : s.size ≤ 140737488351232) (k : Nat) (hk : s.size < k) : spec_IndentAt.f k s p = some (indentM s p) := by
  have h0 := lineM_lo s p
  have h1 := lineM_size s p
  simp (disch := omega) only [spec_IndentAt.f, spec_LineAt_ok, Option.bind_some]
  rw [spec_IndentAt_l0 s hs _ h0 s.size k 0 (by omega) (by omega) (by omega) hk]
  unfold indentM
  rw [show lineM s p + 0 = lineM s p by omega]

theorem spec_FoldFlow_l1 (l l2 : List S58) (t : ByteArray) (g : Bool) (i len : Int) (n : Nat) : ∀ (k : Nat) (out : ByteArray), (out.size : Int) + n + t.size ≤ 70368744177664 →
    spec_FoldFlow.l1 (k + n + 1) l out (n : Int) l2 len i t g = spec_FoldFlow.l0 k l (out ++ nl n ++ t) 0 g l2 len (wrap64 (i + 1)) := by
  induction n with
  | zero =>
    intro k out hb
    rw [show k + 0 + 1 = k + 1 by omega, spec_FoldFlow.l1, if_neg (by omega), if_pos (by omega), nl_zero, app_nil]
    rfl
  | succ n ih =>
    intro k out hb
    have hz : (⟨#[10]⟩ : ByteArray).size = 1 := rfl
    rw [show k + (n + 1) + 1 = (k + n + 1) + 1 by omega, spec_FoldFlow.l1, if_pos (by omega), if_pos (by omega), show (((n + 1 : Nat) : Int) - 1) = (n : Int) by omega, w64 (by omega) (by omega), ih k _ (by rw [size_app, hz]; omega)]
    rw [show (⟨#[10]⟩ : ByteArray) = nl 1 from rfl, app_assoc out (nl 1) (nl n), nl_add, show 1 + n = n + 1 by omega]
theorem spec_FoldFlow_l0 (l : List S58) (hl : l.length ≤ 4194304) (d : Nat) : ∀ (k : Nat) (out : ByteArray) (glue : Bool) (many i : Int), 1 ≤ i → (l.length : Int) - i = d → 0 ≤ many → 10 * (d : Int) + many + 10 ≤ k →
    (out.size : Int) + many + totP ((l.drop i.toNat).map pr58) + 2 * d ≤ 70368744177664 →
    spec_FoldFlow.l0 k l out many glue l (l.length : Int) i = some (ffN out glue many.toNat ((l.drop i.toNat).map pr58)) := by
  induction d with
  | zero =>
    intro k out glue many i h0 hd hm hk hb
    obtain ⟨k, rfl⟩ : ∃ m, k = m + 1 := ⟨k - 1, by omega⟩
    rw [spec_FoldFlow.l0, if_neg (by omega), drop_end _ _ (by omega)]
    rfl
  | succ d ih =>
    intro k out glue many i h0 hd hm hk hb
    obtain ⟨k, rfl⟩ : ∃ m, k = m + 5 := ⟨k - 5, by omega⟩
    have hi : i < (l.length : Int) := by omega
    have hdr : l.drop i.toNat = rd_T58 l i :: l.drop (i + 1).toNat := drop_at z58 l i (by omega) hi
    have hlast : ((l.drop (i + 1).toNat).map pr58 = []) ↔ ¬ i < (l.length : Int) - 1 := by
      rw [List.map_eq_nil_iff, List.drop_eq_nil_iff]; omega
    rw [hdr, List.map_cons] at hb ⊢
    have ei : wrap64 (i + 1) = i + 1 := w64 (by omega) (by omega)
    have el : wrap64 ((l.length : Int) - 1) = (l.length : Int) - 1 := w64 (by omega) (by omega)
    rw [spec_FoldFlow.l0, if_pos hi, if_pos (by omega), if_pos hi, if_pos (by omega), el]
    generalize rd_T58 l i = x at hb ⊢
    have hpx : pr58 x = (x.f0, x.f1) := rfl
    rw [hpx] at hb ⊢
    simp only [totP] at hb
    simp only [ffN]
    have fin : ∀ (m : Nat) (o : ByteArray) (k' : Nat), m ≤ many.toNat → o.size + m ≤ out.size + many.toNat + 1 → 10 * (d : Int) + m + 11 ≤ k' →
        spec_FoldFlow.l1 k' l o (m : Int) l (l.length : Int) i x.f0 x.f1 = some (ffN (o ++ nl m ++ x.f0) x.f1 0 ((l.drop (i + 1).toNat).map pr58)) := fun m o k' hm1 hs hk' => by
      obtain ⟨k'', rfl⟩ : ∃ q, k' = q + m + 1 := ⟨k' - m - 1, by omega⟩
      rw [spec_FoldFlow_l1 l l _ _ i _ m k'' o (by omega), ei]
      exact ih k'' _ x.f1 0 (i + 1) (by omega) (by omega) (by omega) (by omega) (by rw [size_app, size_app, nl_size]; omega)
    have jf : spec_FoldFlow.j1 (k + 4) l out many glue i l (l.length : Int) i false x.f0 x.f1 = some (ffN (out ++ ffSep glue many.toNat ++ x.f0) x.f1 0 ((l.drop (i + 1).toNat).map pr58)) := by
      rw [spec_FoldFlow.j1, if_neg (by decide), if_pos (by omega)]
      unfold ffSep
      by_cases hz : many = 0
      · rw [if_pos hz, if_neg (show ¬ many.toNat > 0 by omega)]
        cases glue with
        | true =>
          rw [show (!true) = false from rfl, spec_FoldFlow.j2, if_neg (by decide), spec_FoldFlow.j3, if_pos rfl, app_nil]
          have := fin 0 out (k + 1) (by omega) (by omega) (by omega)
          rw [nl_zero, app_nil] at this
          rw [hz]
          exact this
        | false =>
          rw [show (!false) = true from rfl, spec_FoldFlow.j2, if_pos rfl, if_pos (by omega), spec_FoldFlow.j3, if_neg (show ¬ (false = true) by decide)]
          have := fin 0 (out ++ (⟨#[32]⟩ : ByteArray)) (k + 1) (by omega) (by rw [size_app]; show out.size + 1 + 0 ≤ _; omega) (by omega)
          rw [nl_zero, app_nil] at this
          rw [hz]
          exact this
      · rw [if_neg hz, spec_FoldFlow.j2, if_neg (by decide), spec_FoldFlow.j3, if_pos (show many.toNat > 0 by omega)]
        have := fin many.toNat out (k + 1) (by omega) (by omega) (by omega)
        rw [show (many.toNat : Int) = many by omega] at this
        exact this
    by_cases hL : i < (l.length : Int) - 1
    · rw [if_pos hL]
      by_cases hx : x.f0.size = 0
      · rw [if_pos (tl_nil.mpr hx)]
        cases hg : x.f1 with
        | true =>
          rw [show (!true) = false from rfl, if_neg (show ¬ (x.f0.size = 0 ∧ true = false ∧ ¬ (l.drop (i + 1).toNat).map pr58 = []) by simp)]
          rw [hg] at jf
          exact jf
        | false =>
          rw [show (!false) = true from rfl, spec_FoldFlow.j1, if_pos rfl, if_pos (show x.f0.size = 0 ∧ false = false ∧ ¬ (l.drop (i + 1).toNat).map pr58 = [] from ⟨hx, rfl, fun c => (hlast.mp c) hL⟩), ei, w64 (n := many + 1) (by omega) (by omega)]
          have := ih (k + 3) out glue (many + 1) (i + 1) (by omega) (by omega) (by omega) (by omega) (by omega)
          rw [show (many + 1).toNat = many.toNat + 1 by omega] at this
          exact this
      · rw [if_neg (fun c => hx (tl_nil.mp c)), if_neg (show ¬ (x.f0.size = 0 ∧ x.f1 = false ∧ ¬ (l.drop (i + 1).toNat).map pr58 = []) from fun c => hx c.1)]
        exact jf
    · rw [if_neg hL, if_neg (show ¬ (x.f0.size = 0 ∧ x.f1 = false ∧ ¬ (l.drop (i + 1).toNat).map pr58 = []) from fun c => c.2.2 (hlast.mpr hL))]
      exact jf
theorem spec_FoldFlow_ok (l : List S58) (hl : l.length ≤ 4194304) (hb : totP (l.map pr58) ≤ 35184372088832) (k : Nat) (hk : 10 * l.length + 20 ≤ k) : spec_FoldFlow.f k l = some (foldFlowM (l.map pr58)) := by
  unfold spec_FoldFlow.f
  cases l with
  | nil =>
    obtain ⟨k, rfl⟩ : ∃ m, k = m + 1 := ⟨k - 1, by omega⟩
    rw [spec_FoldFlow.l0, if_neg (by simp)]
    rfl
  | cons x r =>
    obtain ⟨k, rfl⟩ : ∃ m, k = m + 6 := ⟨k - 6, by omega⟩
    have hpx : pr58 x = (x.f0, x.f1) := rfl
    rw [List.map_cons, hpx] at hb
    simp only [totP] at hb
    have hrd : rd_T58 (x :: r) 0 = x := rfl
    rw [spec_FoldFlow.l0, if_pos (by simp <;> omega), if_pos (by omega), if_pos (by simp <;> omega), if_neg (by omega), hrd, spec_FoldFlow.j1, if_neg (by decide), if_neg (by omega), spec_FoldFlow.j2, if_neg (by decide), spec_FoldFlow.j3]
    have hl1 := spec_FoldFlow_l1 (x :: r) (x :: r) x.f0 x.f1 0 ((x :: r).length : Int) 0 (k + 1) (⟨#[]⟩ : ByteArray) (by rw [size_none]; omega)
    rw [show k + 1 + 0 + 1 = k + 2 by omega, nl_zero, nil_app, nil_app, w64 (by omega) (by omega)] at hl1
    have := spec_FoldFlow_l0 (x :: r) hl r.length (k + 1) x.f0 x.f1 0 1 (by omega) (by simp) (by omega) (by simp at hk <;> omega) (by
      rw [show (1 : Int).toNat = 1 from rfl, List.drop_one, List.tail_cons]; simp at hl; omega)
    rw [show (1 : Int).toNat = 1 from rfl, List.drop_one, List.tail_cons] at this
    exact hl1.trans this

def plN (s : ByteArray) (n : Int) (flow : Bool) : Nat → Int → List S58 → ByteArray × Int × Bool
  | 0, en, l => (foldFlowM (l.map pr58), en, true)
  | d + 1, en, l => match nextM s n flow en with
    | none => (foldFlowM (l.map pr58), en, true)
    | some (w, e) => plN s n flow d (plainEndM s w flow) (l ++ List.replicate e z58 ++ [⟨s.extract w.toNat (plainEndM s w flow).toNat, false⟩])
def plainAtM (s : ByteArray) (p n : Int) (flow : Bool) : ByteArray × Int × Bool :=
  if plainFirstM s (spotM s p) flow = true then plN s n flow (s.size + 1) (plainEndM s (spotM s p) flow) [⟨s.extract (spotM s p).toNat (plainEndM s (spotM s p) flow).toNat, false⟩]
  else ((⟨#[]⟩ : ByteArray), 0, false)
theorem totP_z (e : Nat) : totP ((List.replicate e z58).map pr58) = 0 := by
  induction e with
  | zero => rfl
  | succ e ih => rw [List.replicate_succ, List.map_cons]; show (⟨#[]⟩ : ByteArray).size + _ = 0; rw [ih]; rfl
theorem inv_step {s : ByteArray} {w v : Int} {e : Nat} {l : List S58} {en : Int} (h0 : 0 ≤ en) (hl : (l.length : Int) ≤ en + 1) (ht : (totP (l.map pr58) : Int) ≤ en) (hw : en + 1 + e ≤ w) (hv : w < v) (hz : v ≤ s.size) :
    ((l ++ List.replicate e z58 ++ [(⟨s.extract w.toNat v.toNat, false⟩ : S58)]).length : Int) ≤ v + 1 ∧ (totP ((l ++ List.replicate e z58 ++ [(⟨s.extract w.toNat v.toNat, false⟩ : S58)]).map pr58) : Int) ≤ v := by
  have e1 : totP ([(⟨s.extract w.toNat v.toNat, false⟩ : S58)].map pr58) = v.toNat - w.toNat := by
    show (s.extract w.toNat v.toNat).size + 0 = _
    rw [size_ext _ _ _ (by omega)]; rfl
  rw [List.map_append, List.map_append, totP_app, totP_app, totP_z, e1, List.length_append, List.length_append, List.length_replicate, List.length_singleton]
  omega
theorem spec_PlainAt_j4 (s : ByteArray) (n : Int) (flow : Bool) (en : Int) (l y : List S58) (q : Int) (b : Bool) (hs : s.size ≤ 1048576) (h0 : 0 ≤ q) (h1 : q ≤ s.size) (hl : l.length ≤ 1048577) (hy : y.length ≤ 1048577)
    (ht : totP (l.map pr58) ≤ 1048577) (k : Nat) (hk : 10 * s.size + 100 ≤ k) (hk2 : 10 * l.length + 20 ≤ k) :
    spec_PlainAt.j4 (k + 1) s n flow en l y q b = (if b = true ∨ whiteM s q = s.size ∨ byteM s (whiteM s q) = 10 ∨ byteM s (whiteM s q) = 35 ∨ plainEndM s (whiteM s q) flow = whiteM s q then some (foldFlowM (l.map pr58), en, true)
      else spec_PlainAt.l0 k s n flow (plainEndM s (whiteM s q) flow) (l ++ y ++ [⟨s.extract (whiteM s q).toNat (plainEndM s (whiteM s q) flow).toNat, false⟩])) := by
  have w0 := whiteM_ge s q
  have w1 := whiteM_le s q
  rw [spotM_in h0 h1] at w0
  have ff := spec_FoldFlow_ok l (by omega) (by omega) k hk2
  rw [spec_PlainAt.j4, ff, Option.bind_some]
  cases b with
  | true => rw [if_pos rfl, if_pos (.inl rfl)]
  | false =>
    rw [if_neg (by decide), spec_White_ok s q (by omega) k (by omega), Option.bind_some]
    generalize whiteM s q = w at w0 w1 ⊢
    by_cases c1 : w ≥ (s.size : Int)
    · rw [if_pos c1, if_pos (.inr (.inl (by omega)))]
    · rw [if_neg c1, if_pos (by omega), if_pos (by omega), byteM_in (by omega) (by omega)]
      by_cases c2 : bt s w = 10
      · rw [if_pos c2, if_pos (.inr (.inr (.inl c2)))]
      · rw [if_neg c2]
        by_cases c3 : bt s w = 35
        · rw [if_pos c3, if_pos (.inr (.inr (.inr (.inl c3))))]
        · rw [if_neg c3, spec_PlainEnd_ok s w flow (by omega) k (by omega), Option.bind_some, Option.bind_some]
          by_cases c4 : plainEndM s w flow = w
          · rw [if_pos c4, if_pos (.inr (.inr (.inr (.inr c4))))]
          · have hp := pe_pos (flow := flow) (by omega) w1 c4
            rw [if_neg c4, if_neg (show ¬ (false = true ∨ w = (s.size : Int) ∨ bt s w = 10 ∨ bt s w = 35 ∨ plainEndM s w flow = w) from fun h => by
              rcases h with h | h | h | h | h
              · cases h
              · omega
              · exact c2 h
              · exact c3 h
              · exact c4 h)]
            rw [if_pos (by omega), Option.bind_some, if_pos (by omega), if_pos (by omega), Option.bind_some, if_pos (by rw [List.length_append, List.length_singleton]; omega)]
theorem spec_PlainAt_j3 (s : ByteArray) (n : Int) (flow : Bool) (en : Int) (l y : List S58) (q : Int) (hs : s.size ≤ 1048576) (k : Nat) (hk : s.size + 2 ≤ k) :
    spec_PlainAt.j3 (k + 1) s n flow en l y q = spec_PlainAt.j4 k s n flow en l y q (stopB s n flow q) := by
  rw [spec_PlainAt.j3, spec_MarkAt_ok s q (by omega) k (by omega), Option.bind_some]
  unfold stopB
  by_cases c : markM s q > 0
  · rw [if_pos c, decide_eq_true c]; rfl
  · rw [if_neg c, decide_eq_false c]
    cases flow with
    | true => rfl
    | false => rw [if_neg (by decide), spec_IndentAt_ok s q (by omega) k (by omega), Option.bind_some]; rfl
theorem spec_PlainAt_l1 (s : ByteArray) (n : Int) (flow : Bool) (en : Int) (l : List S58) (hs : s.size ≤ 1048576) (hl : l.length ≤ 1048577) (ht : totP (l.map pr58) ≤ 1048577) (K : Nat) (hK : 10 * s.size + 100 ≤ K) (hK2 : 10 * l.length + 20 ≤ K)
    (q0 : Int) (G : Int → Nat → ByteArray × Int × Bool) (IH : ∀ (k : Nat) (w : Int) (e : Nat), K ≤ k → q0 + e ≤ w → w < plainEndM s w flow → plainEndM s w flow ≤ s.size → spec_PlainAt.l0 k s n flow (plainEndM s w flow) (l ++ List.replicate e z58 ++ [⟨s.extract w.toNat (plainEndM s w flow).toNat, false⟩]) = some (G w e)) (d : Nat) :
    ∀ (k : Nat) (q : Int) (e : Nat), 0 < q → q ≤ s.size → lineM s q = q → (s.size : Int) - q < d → q0 + e ≤ q → 0 ≤ q0 → d + 3 + K ≤ k →
    spec_PlainAt.l1 k s n flow en l (List.replicate e z58) q = some (match nxN s n flow d q e with | none => (foldFlowM (l.map pr58), en, true) | some (w, e') => G w e') := by
  induction d with
  | zero => intro k q e h0 h1 _ h3; omega
  | succ d ih =>
    intro k q e h0 h1 hq hd he hq0 hk
    obtain ⟨k, rfl⟩ : ∃ m, k = m + 3 := ⟨k - 3, by omega⟩
    rw [spec_PlainAt.l1, spec_PlainAt_j3 s n flow en l _ q hs (k + 1) (by omega), spec_PlainAt_j4 s n flow en l _ q _ hs (by omega) h1 hl (by rw [List.length_replicate]; omega) ht k (by omega) (by omega)]
    rw [spec_Lone_ok s q (by omega) (k + 2) (by omega), Option.bind_some, spec_EndAt_ok s q (by omega) (k + 2) (by omega), Option.bind_some, Option.bind_some, Option.bind_some]
    rw [nxN]
    by_cases c1 : loneM s q = true
    · rw [if_pos c1, if_pos c1]
      by_cases c2 : endM s q = (s.size : Int)
      · rw [if_pos c2]
        have hw := lone_end (by omega) h1 hq c1 c2
        have hc : (stopB s n flow q = true ∨ whiteM s q = (s.size : Int) ∨ byteM s (whiteM s q) = 10 ∨ byteM s (whiteM s q) = 35 ∨ plainEndM s (whiteM s q) flow = whiteM s q) := .inr (.inl hw)
        rw [if_neg (show ¬ endM s q < (s.size : Int) by omega), if_pos hc]
        split <;> rfl
      · rw [if_neg c2]
        have a := endM_ge s q
        have b := endM_le s q
        rw [spotM_in (by omega) h1] at a
        rw [if_pos (by omega), if_pos (by omega), if_pos (by rw [List.length_replicate, List.length_singleton]; omega), w64 (n := endM s q + 1) (by omega) (by omega)]
        have hr : List.replicate e z58 ++ [(⟨(⟨#[]⟩ : ByteArray), false⟩ : S58)] = List.replicate (e + 1) z58 := List.replicate_succ'.symm
        rw [hr]
        exact ih (k + 2) (endM s q + 1) (e + 1) (by omega) (by omega) (line_start (by omega) (by omega) (by rw [show endM s q + 1 - 1 = endM s q by omega]; exact end_next (by omega) h1 (by omega))) (by omega) (by omega) hq0 (by omega)
    · have hn := lone_no (by omega) h1 hq c1
      have a := whiteM_ge s q
      rw [spotM_in (by omega) h1] at a
      have hlt : q < (s.size : Int) := by omega
      have hb : byteM s (whiteM s q) = bt s (whiteM s q) := byteM_in (by omega) hn.1
      rw [if_pos hlt, if_neg c1, if_neg c1]
      by_cases c3 : stopB s n flow q = true
      · rw [if_pos (.inl c3), if_pos c3]
      · rw [if_neg c3]
        by_cases c4 : byteM s (whiteM s q) = 35
        · rw [if_pos (.inr (.inr (.inr (.inl c4)))), if_pos c4]
        · rw [if_neg c4]
          by_cases c5 : plainEndM s (whiteM s q) flow = whiteM s q
          · rw [if_pos (.inr (.inr (.inr (.inr c5)))), if_pos c5]
          · rw [if_neg c5, if_neg (fun h => by
              rcases h with h | h | h | h | h
              · exact c3 h
              · omega
              · rw [hb] at h; exact hn.2 h
              · exact c4 h
              · exact c5 h)]
            have hp := pe_pos (flow := flow) (by omega) (by omega) c5
            exact IH k (whiteM s q) e (by omega) (by omega) hp.1 hp.2
theorem spec_PlainAt_l0 (s : ByteArray) (n : Int) (flow : Bool) (hs : s.size ≤ 1048576) (d : Nat) : ∀ (k : Nat) (en : Int) (l : List S58), 0 ≤ en → en ≤ s.size → (s.size : Int) - en ≤ d → (l.length : Int) ≤ en + 1 → (totP (l.map pr58) : Int) ≤ en →
    (s.size + 8) * (d + 1) + 10 * s.size + 200 ≤ k → spec_PlainAt.l0 k s n flow en l = some (plN s n flow (d + 1) en l) := by
  induction d with
  | zero =>
    intro k en l h0 h1 hd hl ht hk
    obtain ⟨k, rfl⟩ : ∃ m, k = m + 2 := ⟨k - 2, by omega⟩
    have w0 := whiteM_ge s en
    have w1 := whiteM_le s en
    rw [spotM_in h0 h1] at w0
    rw [spec_PlainAt.l0, Option.bind_some, spec_White_ok s en (by omega) (k + 1) (by omega), Option.bind_some, if_pos (by omega), spec_PlainAt.j1, if_pos rfl, spec_FoldFlow_ok l (by omega) (by omega) k (by omega), Option.bind_some, plN]
    unfold nextM
    rw [if_neg (by rw [byteM_end (by omega)]; decide)]
  | succ d ih =>
    intro k en l h0 h1 hd hl ht hk
    obtain ⟨k, rfl⟩ : ∃ m, k = m + 2 := ⟨k - 2, by omega⟩
    have hm : (s.size + 8) * (d + 1 + 1) = (s.size + 8) * (d + 1) + (s.size + 8) := by rw [Nat.mul_add (s.size + 8) (d + 1) 1, Nat.mul_one]
    have w0 := whiteM_ge s en
    have w1 := whiteM_le s en
    rw [spotM_in h0 h1] at w0
    have ff := spec_FoldFlow_ok l (by omega) (by omega) k (by omega)
    rw [spec_PlainAt.l0, Option.bind_some, spec_White_ok s en (by omega) (k + 1) (by omega), Option.bind_some, plN]
    by_cases c1 : whiteM s en ≥ (s.size : Int)
    · rw [if_pos c1, spec_PlainAt.j1, if_pos rfl, ff, Option.bind_some]
      unfold nextM
      rw [if_neg (by rw [byteM_end (by omega)]; decide)]
    · rw [if_neg c1, if_pos (by omega), if_pos (by omega), spec_PlainAt.j1, ff, Option.bind_some]
      have hnx : nextM s n flow en = if byteM s (whiteM s en) = 10 then nxN s n flow (s.size + 1) (whiteM s en + 1) 0 else none := rfl
      rw [hnx, byteM_in (by omega) (by omega)]
      by_cases c2 : bt s (whiteM s en) = 10
      · rw [if_pos c2, if_neg (by rw [c2]; decide), w64 (by omega) (by omega)]
        have := spec_PlainAt_l1 s n flow en l hs (by omega) (by omega) ((s.size + 8) * (d + 1) + 10 * s.size + 200) (by omega) (by omega) (whiteM s en + 1)
          (fun w e => plN s n flow (d + 1) (plainEndM s w flow) (l ++ List.replicate e z58 ++ [⟨s.extract w.toNat (plainEndM s w flow).toNat, false⟩]))
          (fun k' w e hk' he hw hz => by
            have hi := inv_step (s := s) (w := w) (v := plainEndM s w flow) (e := e) (l := l) (en := en) h0 hl ht (by omega) hw hz
            exact ih k' _ _ (by omega) hz (by omega) hi.1 hi.2 (by omega)) (s.size + 1) k (whiteM s en + 1) 0 (by omega) (by omega) (line_start (by omega) (by omega) (by rw [show whiteM s en + 1 - 1 = whiteM s en by omega]; exact c2)) (by omega) (by omega) (by omega) (by omega)
        exact this
      · rw [if_neg c2, if_pos (by rw [bne_iff_ne.mpr c2])]
theorem spec_PlainAt_ok (s : ByteArray) (p n : Int) (flow : Bool) (hs : s.size ≤ 1048576) (k : Nat) (hk : (s.size + 8) * (s.size + 1) + 10 * s.size + 200 ≤ k) : spec_PlainAt.f k s p n flow = some (plainAtM s p n flow) := by
  have h0 := spotM_lo s p
  have h1 := spotM_hi s p
  unfold spec_PlainAt.f plainAtM
  rw [spec_l01P_ok, Option.bind_some]
  generalize spotM s p = q at h0 h1 ⊢
  rw [spec_PlainFirst_ok s q flow (by omega) k (by omega), Option.bind_some]
  cases plainFirstM s q flow with
  | false => rfl
  | true =>
    have a := plainEndM_ge s q flow
    have b := plainEndM_le s q flow
    rw [spotM_in h0 h1] at a
    rw [if_pos rfl, if_pos rfl, spec_PlainEnd_ok s q flow (by omega) k (by omega), Option.bind_some, if_pos h0, if_pos a, if_pos b]
    refine spec_PlainAt_l0 s n flow hs s.size k _ _ (by omega) b (by omega) (by rw [List.length_singleton]; omega) ?_ hk
    show (((s.extract q.toNat (plainEndM s q flow).toNat).size + 0 : Nat) : Int) ≤ _
    rw [size_ext _ _ _ (by omega)]
    omega

theorem strings_Repeat_nl (n : Int) (h0 : 0 ≤ n) (h1 : n ≤ 70368744177664) : strings_Repeat.f (⟨#[10]⟩ : ByteArray) n = some (nl n.toNat) := by
  unfold strings_Repeat.f
  have hz : (⟨#[10]⟩ : ByteArray).size = 1 := rfl
  rw [if_pos ⟨h0, by omega, by rw [hz]; omega⟩, repeatL_nl]

theorem impl_FoldFlow_l0 (l : List S58) (hl : l.length ≤ 4194304) (d : Nat) : ∀ (k : Nat) (out : ByteArray) (glue : Bool) (many i : Int), 1 ≤ i → (l.length : Int) - i = d → 0 ≤ many → 2 * d < k →
    (out.size : Int) + many + totP ((l.drop i.toNat).map pr58) + 2 * d ≤ 70368744177664 →
    impl_FoldFlow.l0 k l out glue many i = some (ffN out glue many.toNat ((l.drop i.toNat).map pr58)) := by
  induction d with
  | zero =>
    intro k out glue many i h0 hd hm hk hb
    obtain ⟨k, rfl⟩ : ∃ m, k = m + 1 := ⟨k - 1, by omega⟩
    rw [impl_FoldFlow.l0, if_neg (by omega), drop_end _ _ (by omega)]
    rfl
  | succ d ih =>
    intro k out glue many i h0 hd hm hk hb
    obtain ⟨k, rfl⟩ : ∃ m, k = m + 2 := ⟨k - 2, by omega⟩
    have hi : i < (l.length : Int) := by omega
    have hdr : l.drop i.toNat = rd_T58 l i :: l.drop (i + 1).toNat := drop_at z58 l i (by omega) hi
    have hlast : ((l.drop (i + 1).toNat).map pr58 = []) ↔ ¬ i < (l.length : Int) - 1 := by
      rw [List.map_eq_nil_iff, List.drop_eq_nil_iff]; omega
    rw [hdr, List.map_cons] at hb ⊢
    have ei : wrap64 (i + 1) = i + 1 := w64 (by omega) (by omega)
    have el : wrap64 ((l.length : Int) - 1) = (l.length : Int) - 1 := w64 (by omega) (by omega)
    rw [impl_FoldFlow.l0, if_pos hi, if_pos (by omega), el]
    generalize rd_T58 l i = x at hb ⊢
    have hpx : pr58 x = (x.f0, x.f1) := rfl
    rw [hpx] at hb ⊢
    simp only [totP] at hb
    simp only [ffN]
    have rest : ∀ (s : ByteArray), s.size ≤ many.toNat + 1 → (if out.size + s.size ≤ 9223372036854775807 then (if (out ++ s).size + x.f0.size ≤ 9223372036854775807 then (impl_FoldFlow.l0 k l ((out ++ s) ++ x.f0) x.f1 0 (i + 1)) else (none)) else (none)) = some (ffN (out ++ s ++ x.f0) x.f1 0 ((l.drop (i + 1).toNat).map pr58)) := fun s hs => by
      rw [if_pos (by omega), if_pos (by rw [size_app]; omega)]
      exact ih k _ x.f1 0 (i + 1) (by omega) (by omega) (by omega) (by omega) (by rw [size_app, size_app]; omega)
    have jf : impl_FoldFlow.j1 (k + 1) l out glue many i false x.f0 x.f1 = some (ffN (out ++ ffSep glue many.toNat ++ x.f0) x.f1 0 ((l.drop (i + 1).toNat).map pr58)) := by
      rw [impl_FoldFlow.j1, if_neg (by decide), ei]
      unfold ffSep
      by_cases hz : many > 0
      · rw [if_pos hz, if_pos (show many.toNat > 0 by omega), strings_Repeat_nl many hm (by omega), Option.bind_some]
        exact rest (nl many.toNat) (by rw [nl_size]; omega)
      · rw [if_neg hz, if_neg (show ¬ many.toNat > 0 by omega)]
        cases glue with
        | true =>
          rw [if_pos rfl, if_pos rfl]
          have := rest (⟨#[]⟩ : ByteArray) (by rw [size_none]; omega)
          rw [if_pos (by rw [size_none]; omega)] at this
          rw [app_nil] at this ⊢
          exact this
        | false =>
          rw [if_neg (by decide), if_neg (show ¬ (false = true) by decide)]
          exact rest sp (by rw [sp_size]; omega)
    by_cases hx : x.f0.size = 0
    · rw [if_pos (tl_nil.mpr hx)]
      cases hg : x.f1 with
      | true =>
        rw [if_pos rfl, if_neg (show ¬ (x.f0.size = 0 ∧ true = false ∧ ¬ (l.drop (i + 1).toNat).map pr58 = []) by simp)]
        rw [hg] at jf
        exact jf
      | false =>
        rw [if_neg (by decide)]
        by_cases hL : i < (l.length : Int) - 1
        · rw [show decide (i < (l.length : Int) - 1) = true by simpa using hL, impl_FoldFlow.j1, if_pos rfl, if_pos (show x.f0.size = 0 ∧ false = false ∧ ¬ (l.drop (i + 1).toNat).map pr58 = [] from ⟨hx, rfl, fun c => (hlast.mp c) hL⟩), ei, w64 (n := many + 1) (by omega) (by omega)]
          have := ih k out glue (many + 1) (i + 1) (by omega) (by omega) (by omega) (by omega) (by omega)
          rw [show (many + 1).toNat = many.toNat + 1 by omega] at this
          exact this
        · rw [show decide (i < (l.length : Int) - 1) = false by simpa using hL, if_neg (show ¬ (x.f0.size = 0 ∧ false = false ∧ ¬ (l.drop (i + 1).toNat).map pr58 = []) from fun c => c.2.2 (hlast.mpr hL))]
          rw [hg] at jf
          exact jf
    · rw [if_neg (fun c => hx (tl_nil.mp c)), if_neg (show ¬ (x.f0.size = 0 ∧ x.f1 = false ∧ ¬ (l.drop (i + 1).toNat).map pr58 = []) from fun c => hx c.1)]
      exact jf
theorem impl_FoldFlow_ok (l : List S58) (hl : l.length ≤ 4194304) (hb : totP (l.map pr58) ≤ 35184372088832) (k : Nat) (hk : 2 * l.length + 2 < k) : impl_FoldFlow.f k l = some (foldFlowM (l.map pr58)) := by
  unfold impl_FoldFlow.f
  cases l with
  | nil => rfl
  | cons x r =>
    rw [if_neg (by simp <;> omega), if_pos (by simp <;> omega)]
    have hpx : pr58 x = (x.f0, x.f1) := rfl
    rw [List.map_cons, hpx] at hb
    simp only [totP] at hb
    have := impl_FoldFlow_l0 (x :: r) hl r.length k x.f0 x.f1 0 1 (by omega) (by simp) (by omega) (by simp at hk <;> omega) (by
      rw [show (1 : Int).toNat = 1 from rfl, List.drop_one, List.tail_cons]; simp at hl; omega)
    rw [show (1 : Int).toNat = 1 from rfl, List.drop_one, List.tail_cons] at this
    exact this

theorem impl_spot_ok (s : ByteArray) (p : Int) : impl_spot.f s p = some (spotM s p) := by
  unfold impl_spot.f; rw [mn_mx_spotM]

theorem impl_byteAt_ok (s : ByteArray) (p : Int) : impl_byteAt.f s p = some (byteM s p) := by
  have h0 := spotM_lo s p
  have h1 := spotM_hi s p
  have h2 := bt_lo s (spotM s p)
  have h3 := bt_hi s (spotM s p)
  simp only [impl_byteAt.f, impl_spot_ok, Option.bind_some]
  unfold byteM
  by_cases h : spotM s p = (s.size : Int)
  · rw [if_pos h, if_pos h]
  · rw [if_neg h, if_neg h, if_pos h0, if_pos (by omega), w64 (by omega) (by omega)]

theorem impl_isWhite_ok (b : Int) : impl_isWhite.f b = some (whB b) := by
  unfold impl_isWhite.f
  by_cases h : b = 32
  · rw [if_pos h, whB_iff.mpr (.inl h)]
  · rw [if_neg h]
    by_cases h9 : b = 9
    · rw [h9]; rfl
    · rw [whB_not.mpr (by omega)]; simp [h9]

theorem impl_isBreak_ok (b : Int) : impl_isBreak.f b = some (brB b) := by
  unfold impl_isBreak.f brB
  by_cases h : b = 10
  · simp [h]
  · rw [if_neg h]; simp [h]

theorem impl_gapAt_ok (s : ByteArray) (p : Int) : impl_gapAt.f s p = some (gapB (byteM s p)) := by
  simp only [impl_gapAt.f, impl_byteAt_ok, impl_isWhite_ok, impl_isBreak_ok, Option.bind_some, gapB_eq]
  cases whB (byteM s p) <;> rfl

theorem impl_isFlow_ok (b : Int) : impl_isFlow.f b = some (flB b) := by
  unfold impl_isFlow.f flB
  by_cases h1 : b = 44
  · simp [h1]
  · by_cases h2 : b = 91
    · simp [h2]
    · by_cases h3 : b = 93
      · simp [h3]
      · by_cases h4 : b = 123
        · simp [h4]
        · by_cases h5 : b = 125
          · simp [h5]
          · simp [h1, h2, h3, h4, h5]

theorem impl_PlainFirst_j1 (s : ByteArray) (q : Int) (flow b : Bool) (hs : s.size ≤ 140737488351232) (h0 : 0 ≤ q) (h1 : q ≤ s.size) (k : Nat) (hk : 1 ≤ k) :
    impl_PlainFirst.j1 k s q flow b = some (!b || (!gapB (byteM s (q + 1)) && !(flow && flB (byteM s (q + 1))))) := by
  obtain ⟨k, rfl⟩ : ∃ m, k = m + 1 := ⟨k - 1, by omega⟩
  rw [impl_PlainFirst.j1, w64 (n := q + 1) (by omega) (by omega)]
  simp only [impl_gapAt_ok, impl_byteAt_ok, impl_isFlow_ok, Option.bind_some]
  cases b <;> cases gapB (byteM s (q + 1)) <;> cases flow <;> rfl
theorem impl_PlainFirst_j0 (s : ByteArray) (q : Int) (flow b : Bool) (hs : s.size ≤ 140737488351232) (h0 : 0 ≤ q) (h1 : q ≤ s.size) (c : Int) (k : Nat) (hk : 2 ≤ k) :
    impl_PlainFirst.j0 k s q flow c b = some (!b && (!leadB c || (!gapB (byteM s (q + 1)) && !(flow && flB (byteM s (q + 1)))))) := by
  obtain ⟨k, rfl⟩ : ∃ m, k = m + 1 := ⟨k - 1, by omega⟩
  rw [impl_PlainFirst.j0]
  cases b with
  | true => rfl
  | false =>
    rw [if_neg (by decide)]
    by_cases a1 : c = 45
    · rw [if_pos a1, impl_PlainFirst_j1 s q flow true hs h0 h1 k (by omega), a1]; rfl
    · rw [if_neg a1]
      by_cases a2 : c = 63
      · rw [if_pos a2, impl_PlainFirst_j1 s q flow true hs h0 h1 k (by omega), a2]; rfl
      · rw [if_neg a2, impl_PlainFirst_j1 s q flow _ hs h0 h1 k (by omega)]
        have : (c == 58) = leadB c := by
          by_cases a3 : c = 58
          · rw [a3]; rfl
          · rw [leadB_not.mpr (by omega), beq_eq_false_iff_ne.mpr a3]
        rw [this]; rfl
theorem impl_PlainFirst_ok (s : ByteArray) (p : Int) (flow : Bool) (hs : s.size ≤ 140737488351232) (k : Nat) (hk : 20 ≤ k) : impl_PlainFirst.f k s p flow = some (plainFirstM s p flow) := by
  unfold impl_PlainFirst.f plainFirstM
  have h0 := spotM_lo s p
  have h1 := spotM_hi s p
  rw [impl_spot_ok, Option.bind_some, impl_byteAt_ok, Option.bind_some, impl_gapAt_ok, Option.bind_some]
  generalize spotM s p = q at h0 h1 ⊢
  simp only [impl_PlainFirst_j0 s q flow _ hs h0 h1 _ k (by omega : 2 ≤ k), strings_IndexByte.f, Option.bind_some]
  cases hg : gapB (byteM s q) with
  | true => rfl
  | false =>
    have hq := gap_pos h0 hg
    rw [if_neg (by decide), byteM_in h0 hq, badB_ix (bt_lo s q) (bt_hi s q)]
    by_cases a1 : bt s q = 64
    · rw [if_pos a1, decide_eq_true a1]; rfl
    · rw [if_neg a1, decide_eq_false a1]
      by_cases a2 : bt s q = 96
      · rw [if_pos a2, decide_eq_true a2]; rfl
      · rw [if_neg a2, decide_eq_false a2, Bool.false_or, Bool.false_or]; rfl

theorem impl_PlainEnd_l1 (s : ByteArray) (hs : s.size ≤ 140737488351232) (p : Int) (h0 : 0 ≤ p) (n : Nat) : ∀ (k : Nat), p + n ≤ s.size → n < k → impl_PlainEnd.l1 k s p (p + n) = some (backW s p n) := by
  induction n with
  | zero =>
    intro k h1 hk
    obtain ⟨k, rfl⟩ : ∃ m, k = m + 1 := ⟨k - 1, by omega⟩
    simp (disch := omega) only [impl_PlainEnd.l1, if_neg, backW]
    congr 1; omega
  | succ n ih =>
    intro k h1 hk
    obtain ⟨k, rfl⟩ : ∃ m, k = m + 1 := ⟨k - 1, by omega⟩
    have e : p + ((n + 1 : Nat) : Int) - 1 = p + n := by omega
    simp (disch := omega) only [impl_PlainEnd.l1, if_pos, w64]
    rw [e, impl_byteAt_ok, Option.bind_some, impl_isWhite_ok, Option.bind_some, byteM_in (by omega) (by omega)]
    simp only [backW]
    cases hw : whB (bt s (p + n)) with
    | true => rw [if_pos rfl, if_pos rfl]; exact ih k (by omega) (by omega)
    | false => rw [if_neg (by decide), if_neg (by decide)]; congr 1; omega
theorem impl_PlainEnd_end (s : ByteArray) (hs : s.size ≤ 140737488351232) (p q : Int) (h0 : 0 ≤ p) (hq : p ≤ q) (hq1 : q ≤ s.size) (k : Nat) (hk : s.size + 1 < k) : impl_PlainEnd.j2 k s p q = some (backW s p (q - p).toNat) := by
  obtain ⟨k, rfl⟩ : ∃ m, k = m + 1 := ⟨k - 1, by omega⟩
  simp only [impl_PlainEnd.j2]
  obtain ⟨n, rfl⟩ : ∃ n : Nat, q = p + n := ⟨(q - p).toNat, by omega⟩
  rw [show (p + n - p).toNat = n by omega]
  exact impl_PlainEnd_l1 s hs p h0 n k hq1 (by omega)
theorem impl_PlainEnd_j1 (s : ByteArray) (p q : Int) (flow n : Bool) (b : Int) (hs : s.size ≤ 140737488351232) (h0 : 0 ≤ p) (hq : p ≤ q) (h1 : q < s.size) (k : Nat) : impl_PlainEnd.j1 (k + 1) s p flow q b n =
    if (decide (b = 35 ∧ q > p ∧ whB (byteM s (q - 1)) = true) || (flow && flB b) || (decide (b = 58) && n)) = true then impl_PlainEnd.j2 k s p q else impl_PlainEnd.l0 k s p flow (q + 1) := by
  have e1 : wrap64 (q - 1) = q - 1 := w64 (by omega) (by omega)
  have e2 : wrap64 (q + 1) = q + 1 := w64 (by omega) (by omega)
  rw [impl_PlainEnd.j1]
  simp only [e1, e2, impl_byteAt_ok, impl_isWhite_ok, impl_isFlow_ok, Option.bind_some]
  by_cases c35 : b = 35
  · subst c35
    by_cases cp : q > p
    · cases hw : whB (byteM s (q - 1)) <;> cases flow <;> cases hf : flB 35 <;> simp [cp]
    · cases flow <;> cases hf : flB 35 <;> simp [cp]
  · by_cases c58 : b = 58
    · subst c58
      cases n <;> cases flow <;> cases hf : flB 58 <;> simp
    · cases flow <;> cases hf : flB b <;> simp [c35, c58]
theorem impl_PlainEnd_l0 (s : ByteArray) (hs : s.size ≤ 140737488351232) (p : Int) (h0 : 0 ≤ p) (flow : Bool) (d : Nat) : ∀ (k : Nat) (q : Int), p ≤ q → (s.size : Int) - q = d → s.size + 4 + 2 * d ≤ k →
    impl_PlainEnd.l0 k s p flow q = some (backW s p (peN s p flow d q - p).toNat) := by
  induction d with
  | zero =>
    intro k q hq hd hk
    obtain ⟨k, rfl⟩ : ∃ m, k = m + 1 := ⟨k - 1, by omega⟩
    simp (disch := omega) only [impl_PlainEnd.l0, impl_byteAt_ok, impl_isBreak_ok, byteM_end, br_end, Option.bind_some, if_true, peN]
    exact impl_PlainEnd_end s hs p q h0 hq (by omega) k (by omega)
  | succ d ih =>
    intro k q hq hd hk
    obtain ⟨k, rfl⟩ : ∃ m, k = m + 2 := ⟨k - 2, by omega⟩
    have hlt : q < s.size := by omega
    have key : (impl_PlainEnd.l0 (k + 2) s p flow q) = if brB (byteM s q) = true then impl_PlainEnd.j2 (k + 1) s p q else impl_PlainEnd.j1 (k + 1) s p flow q (byteM s q) (gapB (byteM s (q + 1)) || (flow && flB (byteM s (q + 1)))) := by
      rw [impl_PlainEnd.l0]
      have e2 : wrap64 (q + 1) = q + 1 := w64 (by omega) (by omega)
      simp only [e2, impl_byteAt_ok, impl_isBreak_ok, impl_gapAt_ok, impl_isFlow_ok, Option.bind_some]
      cases brB (byteM s q) <;> cases gapB (byteM s (q + 1)) <;> cases flow <;> simp
    have j : impl_PlainEnd.j1 (k + 1) s p flow q (byteM s q) (gapB (byteM s (q + 1)) || (flow && flB (byteM s (q + 1)))) = if peStop s p flow q = true then impl_PlainEnd.j2 k s p q else impl_PlainEnd.l0 k s p flow (q + 1) := by
      rw [impl_PlainEnd_j1 s p q flow _ _ hs h0 hq hlt k]; rfl
    rw [key, j]
    simp only [peN]
    by_cases hb : brB (byteM s q) = true
    · rw [if_pos hb, if_pos hb]
      exact impl_PlainEnd_end s hs p q h0 hq (by omega) (k + 1) (by omega)
    · rw [if_neg hb, if_neg hb]
      by_cases hc : peStop s p flow q = true
      · rw [if_pos hc, if_pos hc]
        exact impl_PlainEnd_end s hs p q h0 hq (by omega) k (by omega)
      · rw [if_neg hc, if_neg hc]
        exact ih k (q + 1) (by omega) (by omega) (by omega)
theorem impl_PlainEnd_ok (s : ByteArray) (p : Int) (flow : Bool) (hs : s.size ≤ 140737488351232) (k : Nat) (hk : 3 * s.size + 4 ≤ k) : impl_PlainEnd.f k s p flow = some (plainEndM s p flow) := by
  have h0 := spotM_lo s p
  have h1 := spotM_hi s p
  simp only [impl_PlainEnd.f, impl_spot_ok, Option.bind_some]
  exact impl_PlainEnd_l0 s hs _ h0 flow _ k _ (Int.le_refl _) (by omega) (by omega)

theorem impl_EndAt_ok (s : ByteArray) (p : Int) (hs : s.size ≤ 140737488351232) : impl_EndAt.f s p = some (endM s p) := by
  have h0 := spotM_lo s p
  have h1 := spotM_hi s p
  simp only [impl_EndAt.f, impl_spot_ok, Option.bind_some]
  rw [if_pos h0, if_pos h1]
  simp only [strings_IndexByte.f, Option.bind_some]
  obtain ⟨r, hr⟩ : ∃ r, Lib.indexByte (s.extract (spotM s p).toNat s.size).data.toList (10 : Int).toNat.toUInt8 = r := ⟨_, rfl⟩
  obtain ⟨a, b, c⟩ := ix_ext h0 h1 hr
  rw [hr]
  unfold endM
  rw [← c]
  by_cases h : r < 0
  · rw [if_pos h, if_pos h]
  · rw [if_neg h, if_neg h, w64 (by omega) (by omega)]

theorem impl_White_l0 (s : ByteArray) (hs : s.size ≤ 140737488351232) (d : Nat) : ∀ (k : Nat) (i : Int), 0 ≤ i → i ≤ s.size → s.size - i ≤ d → d < k →
    impl_White.l0 k s i = some (upto noWh s i) := by
  induction d with
  | zero =>
    intro k i h0 h1 hd hk
    obtain ⟨k, rfl⟩ : ∃ m, k = m + 1 := ⟨k - 1, by omega⟩
    simp (disch := omega) only [impl_White.l0, impl_byteAt_ok, byteM_end, impl_isWhite_ok, Option.bind_some, upto_end]
    rfl
  | succ d ih =>
    intro k i h0 h1 hd hk
    obtain ⟨k, rfl⟩ : ∃ m, k = m + 1 := ⟨k - 1, by omega⟩
    by_cases hi : i < s.size
    · simp (disch := omega) only [impl_White.l0, impl_byteAt_ok, byteM_in, impl_isWhite_ok, Option.bind_some]
      by_cases hb : whB (bt s i) = true
      · rw [if_pos hb, upto_next hi (by simp [noWh, hb]), w64 (by omega) (by omega)]
        exact ih k (i + 1) (by omega) (by omega) (by omega) (by omega)
      · rw [if_neg hb, upto_hit hi (by simpa [noWh] using hb)]
    · simp (disch := omega) only [impl_White.l0, impl_byteAt_ok, byteM_end, impl_isWhite_ok, Option.bind_some, upto_end]
      rfl
theorem impl_White_ok (s : ByteArray) (p : Int) (hs : s.size ≤ 140737488351232) (k : Nat) (hk : s.size < k) : impl_White.f k s p = some (whiteM s p) := by
  have h0 := spotM_lo s p
  have h1 := spotM_hi s p
  simp only [impl_White.f, impl_spot_ok, Option.bind_some]
  exact impl_White_l0 s hs s.size k _ h0 h1 (by omega) hk

theorem bytealg_LastIndexByteString_l0 (s : ByteArray) (c : Int) (hs : s.size ≤ 140737488351232) (d : Nat) : ∀ (k : Nat) (i : Int), -1 ≤ i → i < s.size → i < d → d < k →
    bytealg_LastIndexByteString.l0 k s c i = some (lastM c s (i + 1) - 1) := by
  induction d with
  | zero =>
    intro k i h0 h1 hd hk
    obtain ⟨k, rfl⟩ : ∃ m, k = m + 1 := ⟨k - 1, by omega⟩
    simp (disch := omega) only [bytealg_LastIndexByteString.l0, if_neg, lastM_neg]
    rfl
  | succ d ih =>
    intro k i h0 h1 hd hk
    obtain ⟨k, rfl⟩ : ∃ m, k = m + 1 := ⟨k - 1, by omega⟩
    by_cases hi : 0 ≤ i
    · by_cases hb : bt s i = c
      · have hb' : bt s (i + 1 - 1) = c := by rw [show i + 1 - 1 = i by omega]; exact hb
        rw [lastM_hit (by omega) hb']
        simp (disch := omega) only [bytealg_LastIndexByteString.l0, if_pos]
        congr 1; omega
      · have hb' : ¬ bt s (i + 1 - 1) = c := by rw [show i + 1 - 1 = i by omega]; exact hb
        rw [lastM_prev (by omega) hb']
        simp (disch := omega) only [bytealg_LastIndexByteString.l0, if_pos, if_neg, w64]
        rw [ih k (i - 1) (by omega) (by omega) (by omega) (by omega)]
        rw [show i + 1 - 1 = i - 1 + 1 by omega]
    · simp (disch := omega) only [bytealg_LastIndexByteString.l0, if_neg, lastM_neg]
      rfl
theorem bytealg_LastIndexByteString_ok (s : ByteArray) (c : Int) (hs : s.size ≤ 140737488351232) (k : Nat) (hk : s.size < k) :
    bytealg_LastIndexByteString.f k s c = some (lastM c s s.size - 1) := by
  unfold bytealg_LastIndexByteString.f
  rw [w64 (by omega) (by omega), bytealg_LastIndexByteString_l0 s c hs s.size k _ (by omega) (by omega) (by omega) hk]
  rw [show (s.size : Int) - 1 + 1 = s.size by omega]

theorem strings_LastIndexByte_ok (s : ByteArray) (c : Int) (hs : s.size ≤ 140737488351232) (k : Nat) (hk : s.size < k) :
    strings_LastIndexByte.f k s c = some (lastM c s s.size - 1) := by
  simp (disch := omega) only [strings_LastIndexByte.f, bytealg_LastIndexByteString_ok, Option.bind_some]

theorem impl_LineAt_ok (s : ByteArray) (p : Int) (hs : s.size ≤ 140737488351232) (k : Nat) (hk : s.size < k) : impl_LineAt.f k s p = some (lineM s p) := by
  have h0 := spotM_lo s p
  have h1 := spotM_hi s p
  have hz : (s.extract 0 (spotM s p).toNat).size = (spotM s p).toNat := by rw [size_ext _ _ _ (by omega)]; omega
  have hl := lastM_lo 10 (s.extract 0 (spotM s p).toNat) ((spotM s p).toNat : Int)
  have hm := lastM_hi (c := 10) (s := s.extract 0 (spotM s p).toNat) (p := ((spotM s p).toNat : Int)) (by omega)
  simp only [impl_LineAt.f, impl_spot_ok, Option.bind_some]
  rw [if_pos h0, if_pos h1, strings_LastIndexByte_ok _ _ (by omega) k (by omega), Option.bind_some, hz, w64 (by omega) (by omega)]
  unfold lineM
  rw [show ((spotM s p).toNat : Int) = spotM s p by omega] at *
  rw [show ∀ x : Int, x - 1 + 1 = x by intro x; omega]
  congr 1
  refine lastM_ext fun i a b => ?_
  rw [bt_ext (by omega) a (by omega)]
  congr 1; omega

theorem impl_IndentAt_l0 (s : ByteArray) (hs : s.size ≤ 140737488351232) (a : Int) (ha : 0 ≤ a) (ha1 : a ≤ s.size) (d : Nat) : ∀ (k : Nat) (i : Int), 0 ≤ i → i ≤ s.size → s.size - i ≤ d → d < k →
    impl_IndentAt.l0 k s a i = some (upto noBl s i - a) := by
  induction d with
  | zero =>
    intro k i h0 h1 hd hk
    obtain ⟨k, rfl⟩ : ∃ m, k = m + 1 := ⟨k - 1, by omega⟩
    simp (disch := omega) only [impl_IndentAt.l0, impl_byteAt_ok, byteM_end, Option.bind_some, w64, if_neg, upto_end]
  | succ d ih =>
    intro k i h0 h1 hd hk
    obtain ⟨k, rfl⟩ : ∃ m, k = m + 1 := ⟨k - 1, by omega⟩
    by_cases hi : i < s.size
    · by_cases hb : bt s i = 32
      · rw [upto_next hi (noBl_not.mpr hb)]
        simp (disch := omega) only [impl_IndentAt.l0, impl_byteAt_ok, byteM_in, Option.bind_some, w64, if_pos]
        rw [ih k (i + 1) (by omega) (by omega) (by omega) (by omega)]
      · rw [upto_hit hi (noBl_iff.mpr hb)]
        simp (disch := omega) only [impl_IndentAt.l0, impl_byteAt_ok, byteM_in, Option.bind_some, w64, if_neg]
    · simp (disch := omega) only [impl_IndentAt.l0, impl_byteAt_ok, byteM_end, Option.bind_some, w64, if_neg, upto_end]
theorem impl_IndentAt_ok (s : ByteArray) (p : Int) (hs : s.size ≤ 140737488351232) (k : Nat) (hk : s.size < k) : impl_IndentAt.f k s p = some (indentM s p) := by
  have h0 := lineM_lo s p
  have h1 := lineM_size s p
  simp (disch := omega) only [impl_IndentAt.f, impl_LineAt_ok, Option.bind_some]
  rw [impl_IndentAt_l0 s hs _ h0 h1 s.size k _ h0 h1 (by omega) hk]
  rfl

theorem impl_Lone_ok (s : ByteArray) (p : Int) (hs : s.size ≤ 140737488351232) (k : Nat) (hk : s.size + 1 < k) : impl_Lone.f k s p = some (loneM s p) := by
  have h0 := lineM_lo s p
  have h1 := spotM_lo s (lineM s p)
  have h2 := whiteM_ge s (lineM s p)
  simp (disch := omega) only [impl_Lone.f, impl_LineAt_ok, impl_White_ok, impl_byteAt_ok, impl_isBreak_ok, Option.bind_some, loneM]

theorem impl_MarkAt_ok (s : ByteArray) (p : Int) (hs : s.size ≤ 140737488351232) (k : Nat) (hk : s.size + 1 < k) : impl_MarkAt.f k s p = some (markM s p) := by
  have h0 := spotM_lo s p
  have h1 := spotM_hi s p
  obtain ⟨k, rfl⟩ : ∃ m, k = m + 1 := ⟨k - 1, by omega⟩
  simp (disch := omega) only [impl_MarkAt.f, impl_spot_ok, impl_LineAt_ok, Option.bind_some, markM]
  generalize spotM s p = q at h0 h1 ⊢
  have jt : impl_MarkAt.j0 (k + 1) s q true = some 0 := by simp only [impl_MarkAt.j0, if_true]
  by_cases hl : lineM s q = q
  · rw [if_pos hl, w64 (by omega) (by omega)]
    by_cases h3 : (s.size : Int) - q < 3
    · rw [if_pos h3, jt, if_neg (by omega)]
    · rw [if_neg h3]
      simp (disch := omega) only [w64, impl_gapAt_ok, Option.bind_some]
      cases hg : gapB (byteM s (q + 3)) with
      | false => rw [show (!false) = true from rfl, jt, if_neg (by simp)]
      | true =>
        rw [show (!true) = false from rfl, if_pos ⟨hl, by omega, rfl⟩]
        simp (disch := omega) only [impl_MarkAt.j0, Bool.false_eq_true, if_false, w64]
        rw [if_pos h0, if_pos (by omega), if_pos (by omega)]
        split
        · rfl
        · split <;> rfl
  · rw [if_neg hl, jt, if_neg (fun h => hl h.1)]

def nxR : Option (Int × Nat) → Int × Int × Bool
  | none => (0, 0, false)
  | some (w, e) => (w, (e : Int), true)
theorem impl_nextPlain_l0 (s : ByteArray) (n : Int) (flow : Bool) (hs : s.size ≤ 1048576) (d : Nat) : ∀ (k : Nat) (q : Int) (e : Nat), 0 ≤ q → q ≤ s.size → (s.size : Int) - q < d → e ≤ 1048577 → (e : Int) ≤ q → d + 3 * s.size + 10 ≤ k →
    impl_nextPlain.l0 k s n flow q (e : Int) = some (nxR (nxN s n flow d q e)) := by
  induction d with
  | zero => intro k q e h0 h1 h3; omega
  | succ d ih =>
    intro k q e h0 h1 hd he heq hk
    obtain ⟨k, rfl⟩ : ∃ m, k = m + 1 := ⟨k - 1, by omega⟩
    have w0 := whiteM_ge s q
    have w1 := whiteM_le s q
    have m0 := markM_lo s q
    rw [impl_nextPlain.l0, impl_Lone_ok s q (by omega) k (by omega), Option.bind_some, impl_EndAt_ok s q (by omega), Option.bind_some, Option.bind_some, impl_White_ok s q (by omega) k (by omega), Option.bind_some,
      impl_MarkAt_ok s q (by omega) k (by omega), Option.bind_some, impl_byteAt_ok, Option.bind_some, impl_PlainEnd_ok s _ flow (by omega) k (by omega), Option.bind_some,
      impl_IndentAt_ok s q (by omega) k (by omega), Option.bind_some, nxN]
    by_cases c1 : loneM s q = true
    · rw [if_pos c1, if_pos c1]
      by_cases c2 : endM s q = (s.size : Int)
      · rw [if_pos c2, if_pos c2]; rfl
      · have a := endM_ge s q
        have b := endM_le s q
        rw [spotM_in h0 h1] at a
        rw [if_neg c2, if_neg c2, w64 (n := endM s q + 1) (by omega) (by omega), w64 (n := (e : Int) + 1) (by omega) (by omega)]
        exact ih k (endM s q + 1) (e + 1) (by omega) (by omega) (by omega) (by omega) (by omega) (by omega)
    · rw [if_neg c1, if_neg c1]
      unfold stopB
      by_cases c2 : markM s q = 0
      · rw [if_pos c2, decide_eq_false (show ¬ markM s q > 0 by omega), Bool.false_or]
        cases flow with
        | true =>
          rw [if_pos rfl, if_neg (show ¬ ((!true && decide (indentM s q ≤ n)) = true) by simp)]
          by_cases c3 : byteM s (whiteM s q) = 35
          · rw [if_pos c3, if_pos c3]; rfl
          · rw [if_neg c3, if_neg c3]
            by_cases c4 : plainEndM s (whiteM s q) true = whiteM s q
            · rw [if_pos c4, if_pos c4]; rfl
            · rw [if_neg c4, if_neg c4]; rfl
        | false =>
          rw [if_neg (show ¬ (false = true) by decide)]
          by_cases c5 : indentM s q ≤ n
          · rw [if_pos c5, if_pos (show (!false && decide (indentM s q ≤ n)) = true by simp [c5])]; rfl
          · rw [if_neg c5, if_neg (show ¬ ((!false && decide (indentM s q ≤ n)) = true) by simp [c5])]
            by_cases c3 : byteM s (whiteM s q) = 35
            · rw [if_pos c3, if_pos c3]; rfl
            · rw [if_neg c3, if_neg c3]
              by_cases c4 : plainEndM s (whiteM s q) false = whiteM s q
              · rw [if_pos c4, if_pos c4]; rfl
              · rw [if_neg c4, if_neg c4]; rfl
      · rw [if_neg c2, decide_eq_true (show markM s q > 0 by omega), Bool.true_or, if_pos rfl]; rfl
theorem impl_nextPlain_ok (s : ByteArray) (en n : Int) (flow : Bool) (hs : s.size ≤ 1048576) (h0 : 0 ≤ en) (h1 : en ≤ s.size) (k : Nat) (hk : 4 * s.size + 20 ≤ k) : impl_nextPlain.f k s en n flow = some (nxR (nextM s n flow en)) := by
  have w0 := whiteM_ge s en
  have w1 := whiteM_le s en
  rw [spotM_in h0 h1] at w0
  unfold impl_nextPlain.f nextM
  rw [impl_White_ok s en (by omega) k (by omega), Option.bind_some, impl_byteAt_ok, Option.bind_some, Option.bind_some]
  by_cases c : byteM s (whiteM s en) = 10
  · have hlt : whiteM s en < s.size := by
      by_cases d : whiteM s en < s.size
      · exact d
      · rw [byteM_end (by omega)] at c; omega
    rw [if_pos c, if_pos c, w64 (by omega) (by omega)]
    exact impl_nextPlain_l0 s n flow hs (s.size + 1) k (whiteM s en + 1) 0 (by omega) (by omega) (by omega) (by omega) (by omega) (by omega)
  · rw [if_neg c, if_neg c]; rfl

theorem impl_PlainAt_l1 (s : ByteArray) (n : Int) (flow : Bool) (hs : s.size ≤ 1048576) (w : Int) (h0 : 0 ≤ w) (hw : w < plainEndM s w flow) (hz : plainEndM s w flow ≤ s.size) (e : Nat) (he : e ≤ 1048577) (d : Nat) :
    ∀ (k : Nat) (l : List S58) (i : Int), 0 ≤ i → (e : Int) - i = d → (l.length : Int) + d ≤ 4194304 → 3 * s.size + 10 ≤ k →
    impl_PlainAt.l1 (k + d + 1) s n flow l w (e : Int) i = impl_PlainAt.l0 k s n flow (plainEndM s w flow) (l ++ List.replicate d z58 ++ [⟨s.extract w.toNat (plainEndM s w flow).toNat, false⟩]) := by
  induction d with
  | zero =>
    intro k l i hi hd hl hk
    rw [impl_PlainAt.l1, if_neg (by omega), impl_PlainEnd_ok s w flow (by omega) k (by omega), Option.bind_some, if_pos h0, if_pos (by omega), if_pos hz, if_pos (by omega), List.replicate_zero, List.append_nil]
  | succ d ih =>
    intro k l i hi hd hl hk
    rw [impl_PlainAt.l1, if_pos (by omega), if_pos (by omega), w64 (n := i + 1) (by omega) (by omega)]
    have := ih k (l ++ [z58]) (i + 1) (by omega) (by omega) (by rw [List.length_append, List.length_singleton]; omega) hk
    rw [List.append_assoc l [z58], List.singleton_append, ← List.replicate_succ] at this
    exact this
theorem impl_PlainAt_l0 (s : ByteArray) (n : Int) (flow : Bool) (hs : s.size ≤ 1048576) (d : Nat) : ∀ (k : Nat) (en : Int) (l : List S58), 0 ≤ en → en ≤ s.size → (s.size : Int) - en ≤ d → (l.length : Int) ≤ en + 1 → (totP (l.map pr58) : Int) ≤ en →
    (s.size + 8) * (d + 1) + 10 * s.size + 200 ≤ k → impl_PlainAt.l0 k s n flow en l = some (plN s n flow (d + 1) en l) := by
  induction d with
  | zero =>
    intro k en l h0 h1 hd hl ht hk
    obtain ⟨k, rfl⟩ : ∃ m, k = m + 1 := ⟨k - 1, by omega⟩
    have hn : nextM s n flow en = none := by
      have w0 := whiteM_ge s en
      have w1 := whiteM_le s en
      rw [spotM_in h0 h1] at w0
      unfold nextM
      rw [if_neg (by rw [byteM_end (by omega)]; decide)]
    rw [impl_PlainAt.l0, impl_nextPlain_ok s en n flow hs h0 h1 k (by omega), Option.bind_some, hn, plN, hn]
    rw [impl_FoldFlow_ok l (by omega) (by omega) k (by omega), Option.bind_some]
    rfl
  | succ d ih =>
    intro k en l h0 h1 hd hl ht hk
    obtain ⟨k, rfl⟩ : ∃ m, k = m + 1 := ⟨k - 1, by omega⟩
    have hm : (s.size + 8) * (d + 1 + 1) = (s.size + 8) * (d + 1) + (s.size + 8) := by rw [Nat.mul_add (s.size + 8) (d + 1) 1, Nat.mul_one]
    rw [impl_PlainAt.l0, impl_nextPlain_ok s en n flow hs h0 h1 k (by omega), Option.bind_some, plN, impl_FoldFlow_ok l (by omega) (by omega) k (by omega), Option.bind_some]
    cases hn : nextM s n flow en with
    | none => rfl
    | some r =>
      obtain ⟨w, e⟩ := r
      have hx := nextM_some h0 h1 hn
      have hi := inv_step (s := s) (w := w) (v := plainEndM s w flow) (e := e) (l := l) (en := en) h0 hl ht (by omega) hx.2.1 hx.2.2
      show (if true = true then impl_PlainAt.l1 k s n flow l w (e : Int) 0 else _) = _
      rw [if_pos rfl]
      obtain ⟨k, rfl⟩ : ∃ m, k = m + e + 1 := ⟨k - e - 1, by omega⟩
      rw [impl_PlainAt_l1 s n flow hs w (by omega) hx.2.1 hx.2.2 e (by omega) e k l 0 (by omega) (by omega) (by omega) (by omega)]
      exact ih k _ _ (by omega) hx.2.2 (by omega) hi.1 hi.2 (by omega)
theorem impl_PlainAt_ok (s : ByteArray) (p n : Int) (flow : Bool) (hs : s.size ≤ 1048576) (k : Nat) (hk : (s.size + 8) * (s.size + 1) + 10 * s.size + 200 ≤ k) : impl_PlainAt.f k s p n flow = some (plainAtM s p n flow) := by
  have h0 := spotM_lo s p
  have h1 := spotM_hi s p
  unfold impl_PlainAt.f plainAtM
  rw [impl_spot_ok, Option.bind_some]
  generalize spotM s p = q at h0 h1 ⊢
  rw [impl_PlainFirst_ok s q flow (by omega) k (by omega), Option.bind_some]
  cases plainFirstM s q flow with
  | false => rfl
  | true =>
    have a := plainEndM_ge s q flow
    have b := plainEndM_le s q flow
    rw [spotM_in h0 h1] at a
    rw [if_pos rfl, if_pos rfl, impl_PlainEnd_ok s q flow (by omega) k (by omega), Option.bind_some, if_pos h0, if_pos a, if_pos b]
    refine impl_PlainAt_l0 s n flow hs s.size k _ _ (by omega) b (by omega) (by rw [List.length_singleton]; omega) ?_ hk
    show (((s.extract q.toNat (plainEndM s q flow).toNat).size + 0 : Nat) : Int) ≤ _
    rw [size_ext _ _ _ (by omega)]
    omega

theorem FnExactPlainAt : laws_FnExactPlainAt.Pure := by
  intro s p n flow hs hp hn
  by_cases h : (s.size : Int) > 1048576
  · exact ⟨0, by simp only [laws_FnExactPlainAt.f, if_pos h]⟩
  · refine ⟨(s.size + 8) * (s.size + 1) + 10 * s.size + 200, ?_⟩
    unfold laws_FnExactPlainAt.f
    rw [if_neg h, spec_PlainAt_ok s p n flow (by omega) _ (Nat.le_refl _), Option.bind_some, impl_PlainAt_ok s p n flow (by omega) _ (Nat.le_refl _), Option.bind_some, if_pos rfl, if_pos rfl]
    simp only [bne_self_eq_false, Bool.false_eq_true, if_false]

end Go.Proofs.Ytglmjmkbahfgaaa.Pure
