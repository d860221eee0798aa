/- For every text of at most 2^20 bytes and all other arguments, the program's HeadAt answers as the reference's does; no condition beyond the statement's own. -/
import Derived.Test.YtjbhflicehnocaaPFnExactHeadAtx0
import Derived.Test.YtjbhflicehnocaaPFnExactHeadAtx1
import Derived.Test.YtjbhflicehnocaaPFnExactHeadAtx2
import Derived.Test.YtjbhflicehnocaaPFnExactHeadAtx3
import Derived.Test.YtjbhflicehnocaaPFnExactHeadAtx4
import Derived.Test.YtjbhflicehnocaaIx
import Derived.Test.YtjbhflicehnocaaMine
import Derived.Test.YtjbhflicehnocaaTxt
namespace Go.Proofs.Ytjbhflicehnocaa.Pure
open Go.RowKit Go.Proofs.Ytjbhflicehnocaa.PFnExactHeadAt Go.Proofs.YtjbhflicehnocaaW.PrintWords Go.Proofs.YtjbhflicehnocaaW.PrintLast Go.Proofs.YtjbhflicehnocaaW.PrintMore Go.Proofs.Ytjbhflicehnocaa.Mine

theorem spec_l01P_ok (s : ByteArray) (p : Int) : spec_l01P.f s p = some (spotM s p) := by
  unfold spec_l01P.f spotM
  split
  · rfl
  · split <;> rfl

theorem spec_l03White_in (s : ByteArray) (p : Int) (h0 : 0 ≤ p) (h1 : p < s.size) : spec_l03White.f s p = some (whB (bt s p)) := by
  simp (disch := omega) only [spec_l03White.f, if_pos]
  by_cases h : bt s p = 32
  · rw [if_pos h, whB_iff.mpr (.inl h)]
  · rw [if_neg h]
    by_cases h9 : bt s p = 9
    · rw [h9]; rfl
    · rw [whB_not.mpr (by omega)]; simp [h9]
theorem spec_l03White_end (s : ByteArray) (p : Int) (h1 : (s.size : Int) ≤ p) : spec_l03White.f s p = some false := by
  simp (disch := omega) only [spec_l03White.f, if_neg]
theorem spec_l03White_ok (s : ByteArray) (p : Int) (h0 : 0 ≤ p) : spec_l03White.f s p = some (whB (byteM s p)) := by
  by_cases h : p < s.size
  · rw [spec_l03White_in s p h0 h, byteM_in h0 h]
  · rw [spec_l03White_end s p (by omega), byteM_end (by omega)]; rfl

theorem spec_White_l0 (s : ByteArray) (hs : s.size ≤ 140737488351232) (d : Nat) : ∀ (k : Nat) (i : Int), 0 ≤ i → i ≤ s.size → s.size - i ≤ d → d < k →
    spec_White.l0 k s i = some (upto noWh s i) := by
  induction d with
  | zero =>
    intro k i h0 h1 hd hk
    obtain ⟨k, rfl⟩ : ∃ m, k = m + 1 := ⟨k - 1, by omega⟩
    simp (disch := omega) only [spec_White.l0, spec_l03White_end, Option.bind_some, Bool.false_eq_true, if_false, upto_end]
  | succ d ih =>
    intro k i h0 h1 hd hk
    obtain ⟨k, rfl⟩ : ∃ m, k = m + 1 := ⟨k - 1, by omega⟩
    by_cases hi : i < s.size
    · simp (disch := omega) only [spec_White.l0, spec_l03White_in, Option.bind_some]
      by_cases hb : whB (bt s i) = true
      · rw [if_pos hb, upto_next hi (by simp [noWh, hb]), w64 (by omega) (by omega)]
        exact ih k (i + 1) (by omega) (by omega) (by omega) (by omega)
      · rw [if_neg hb, upto_hit hi (by simpa [noWh] using hb)]
    · simp (disch := omega) only [spec_White.l0, spec_l03White_end, Option.bind_some, Bool.false_eq_true, if_false, upto_end]
theorem spec_White_ok (s : ByteArray) (p : Int) (hs : s.size ≤ 140737488351232) (k : Nat) (hk : s.size < k) : spec_White.f k s p = some (whiteM s p) := by
  have h0 := spotM_lo s p
  have h1 := spotM_hi s p
  simp only [spec_White.f, spec_l01P_ok, Option.bind_some]
  exact spec_White_l0 s hs s.size k _ h0 h1 (by omega) hk

theorem spec_l03Break_ok (s : ByteArray) (p : Int) (h0 : 0 ≤ p) : spec_l03Break.f s p = some (brB (byteM s p)) := by
  unfold spec_l03Break.f
  by_cases h : p < s.size
  · rw [if_neg (by omega), if_pos h0, if_pos h, byteM_in h0 h]
    have := bt_lo s p
    by_cases h10 : bt s p = 10
    · rw [h10]; rfl
    · rw [brB_not.mpr (by omega)]; simp [h10]
  · rw [if_pos (by omega), byteM_end (by omega)]; rfl

theorem spec_LineAt_l0 (s : ByteArray) (hs : s.size ≤ 140737488351232) (d : Nat) : ∀ (k : Nat) (i : Int), 0 ≤ i → i ≤ s.size → i ≤ d → d < k →
    spec_LineAt.l0 k s i = some (lastM 10 s i) := by
  induction d with
  | zero =>
    intro k i h0 h1 hd hk
    obtain ⟨k, rfl⟩ : ∃ m, k = m + 1 := ⟨k - 1, by omega⟩
    simp (disch := omega) only [spec_LineAt.l0, if_neg, lastM_neg]
    congr 1; omega
  | succ d ih =>
    intro k i h0 h1 hd hk
    obtain ⟨k, rfl⟩ : ∃ m, k = m + 1 := ⟨k - 1, by omega⟩
    by_cases hi : 0 < i
    · by_cases hb : bt s (i - 1) = 10
      · simp (disch := omega) only [spec_LineAt.l0, if_pos, w64, lastM_hit]
      · simp (disch := omega) only [spec_LineAt.l0, if_pos, if_neg, w64, lastM_prev]
        exact ih k (i - 1) (by omega) (by omega) (by omega) (by omega)
    · simp (disch := omega) only [spec_LineAt.l0, if_neg, lastM_neg]
      congr 1; omega
theorem spec_LineAt_ok (s : ByteArray) (p : Int) (hs : s.size ≤ 140737488351232) (k : Nat) (hk : s.size < k) : spec_LineAt.f k s p = some (lineM s p) := by
  have h0 := spotM_lo s p
  have h1 := spotM_hi s p
  simp only [spec_LineAt.f, spec_l01P_ok, Option.bind_some]
  exact spec_LineAt_l0 s hs s.size k _ h0 h1 h1 hk

theorem spec_EndAt_l0 (s : ByteArray) (hs : s.size ≤ 140737488351232) (d : Nat) : ∀ (k : Nat) (i : Int), 0 ≤ i → i ≤ s.size → s.size - i ≤ d → d < k →
    spec_EndAt.l0 k s i = some (upto isLf s i) := by
  induction d with
  | zero =>
    intro k i h0 h1 hd hk
    obtain ⟨k, rfl⟩ : ∃ m, k = m + 1 := ⟨k - 1, by omega⟩
    simp (disch := omega) only [spec_EndAt.l0, if_neg, upto_end]
  | succ d ih =>
    intro k i h0 h1 hd hk
    obtain ⟨k, rfl⟩ : ∃ m, k = m + 1 := ⟨k - 1, by omega⟩
    by_cases hi : i < s.size
    · by_cases hb : bt s i = 10
      · rw [upto_hit hi (isLf_iff.mpr hb)]
        simp (disch := omega) only [spec_EndAt.l0, if_pos, if_neg]
      · rw [upto_next hi (isLf_not.mpr hb)]
        simp (disch := omega) only [spec_EndAt.l0, if_pos, if_neg, w64]
        exact ih k (i + 1) (by omega) (by omega) (by omega) (by omega)
    · simp (disch := omega) only [spec_EndAt.l0, if_neg, upto_end]
theorem spec_EndAt_ok (s : ByteArray) (p : Int) (hs : s.size ≤ 140737488351232) (k : Nat) (hk : s.size < k) : spec_EndAt.f k s p = some (endM s p) := by
  have h0 := spotM_lo s p
  have h1 := spotM_hi s p
  simp only [spec_EndAt.f, spec_l01P_ok, Option.bind_some]
  exact spec_EndAt_l0 s hs s.size k _ h0 h1 (by omega) hk

theorem spec_Rest_ok (s : ByteArray) (p : Int) (hs : s.size ≤ 140737488351232) (k : Nat) (hk : s.size < k) : spec_Rest.f k s p = some (restM s p) := by
  have h0 := spotM_lo s p
  have h1 := spotM_hi s p
  simp (disch := omega) only [spec_Rest.f, spec_l01P_ok, spec_White_ok, Option.bind_some, restM]
  generalize spotM s p = q at h0 h1 ⊢
  have w0 := whiteM_ge s q
  have w1 := whiteM_le s q
  rw [spotM_in h0 h1] at w0
  generalize whiteM s q = w at w0 w1 ⊢
  simp (disch := omega) only [spec_l03Break_ok, spec_EndAt_ok, spec_LineAt_ok, Option.bind_some]
  cases hb : brB (byteM s w) with
  | true => rw [if_pos rfl, if_pos (show true = true ∨ (byteM s w = 35 ∧ (¬ w = q ∨ lineM s q = q)) from .inl rfl)]
  | false =>
    rw [if_neg (by decide)]
    have hw : w < s.size := by
      by_cases c : w < s.size
      · exact c
      · rw [byteM_end (by omega)] at hb; cases hb
    rw [if_pos (by omega), if_pos hw, byteM_in (by omega) hw]
    by_cases c35 : bt s w = 35
    · rw [if_pos c35]
      by_cases cq : w > q
      · rw [if_pos cq, if_pos (show false = true ∨ (bt s w = 35 ∧ (¬ w = q ∨ lineM s q = q)) from .inr ⟨c35, .inl (by omega)⟩)]
      · rw [if_neg cq]
        by_cases cl : lineM s q = q
        · rw [if_pos cl, if_pos (show false = true ∨ (bt s w = 35 ∧ (¬ w = q ∨ lineM s q = q)) from .inr ⟨c35, .inr cl⟩)]
        · rw [if_neg cl, if_neg (show ¬ (false = true ∨ (bt s w = 35 ∧ (¬ w = q ∨ lineM s q = q))) from fun h => by
            rcases h with h | ⟨_, h | h⟩
            · cases h
            · omega
            · exact cl h)]
    · rw [if_neg c35, if_neg (show ¬ (false = true ∨ (bt s w = 35 ∧ (¬ w = q ∨ lineM s q = q))) from fun h => by
        rcases h with h | ⟨h, _⟩
        · cases h
        · exact c35 h)]

theorem spec_HeadAt_rest (s : ByteArray) (hs : s.size ≤ 140737488351232) (digit chomp q : Int) (k : Nat) (hk : s.size < k) :
    ((spec_Rest.f k s q).bind fun b => (if b.2 = true then (some (digit, chomp, b.1, (0 : Int))) else (some (0, 0, b.1, 6)))) = some (headEnd s digit chomp q) := by
  rw [spec_Rest_ok s q hs k hk, Option.bind_some]
  unfold headEnd
  split <;> rfl
theorem spec_HeadAt_step (s : ByteArray) (hs : s.size ≤ 140737488351232) (d : Nat)
    (ih : 1 ≤ d → ∀ (k : Nat) (digit chomp q : Int), 0 ≤ q → q ≤ s.size → headLeft digit chomp ≤ d - 1 → s.size + 3 * (d - 1) + 4 ≤ k → spec_HeadAt.l0 k s digit chomp q = some (headN s (d - 1) digit chomp q)) :
    ∀ (k : Nat) (digit chomp q : Int), 0 ≤ q → q ≤ s.size → headLeft digit chomp ≤ d → s.size + 3 * d + 4 ≤ k → spec_HeadAt.l0 k s digit chomp q = some (headN s d digit chomp q) := by
  intro k digit chomp q h0 h1 hl hk
  obtain ⟨k, rfl⟩ : ∃ m, k = m + 3 := ⟨k - 3, by omega⟩
  rw [headN_step hl, spec_HeadAt.l0]
  by_cases hq : q < s.size
  · have e1 : wrap64 (q + 1) = q + 1 := w64 (by omega) (by omega)
    have hb := byteM_in h0 hq
    rw [if_pos hq, if_pos h0, hb]
    have j2f : ¬ (49 ≤ bt s q ∧ bt s q ≤ 57 ∧ digit = 0) → spec_HeadAt.j2 (k + 2) s digit chomp q false = some (if bt s q = 43 ∧ chomp = 0 then headN s (d - 1) digit 2 (q + 1) else if bt s q = 45 ∧ chomp = 0 then headN s (d - 1) digit 1 (q + 1) else headEnd s digit chomp q) := fun hno => by
      rw [spec_HeadAt.j2, if_neg (by decide), if_pos h0, if_pos hq]
      have j3f : ¬ (bt s q = 43 ∧ chomp = 0) → spec_HeadAt.j3 (k + 1) s digit chomp q false = some (if bt s q = 45 ∧ chomp = 0 then headN s (d - 1) digit 1 (q + 1) else headEnd s digit chomp q) := fun hno2 => by
        rw [spec_HeadAt.j3, if_neg (by decide), if_pos h0, if_pos hq, e1]
        by_cases c45 : bt s q = 45
        · rw [if_pos c45]
          by_cases c0 : chomp = 0
          · rw [if_pos c0, if_pos (show bt s q = 45 ∧ chomp = 0 from ⟨c45, c0⟩)]
            unfold headLeft at hl
            rw [if_pos c0] at hl
            exact ih (by omega) k digit 1 (q + 1) (by omega) (by omega) (by unfold headLeft; rw [if_neg (show ¬ (1 : Int) = 0 by decide)]; omega) (by omega)
          · rw [if_neg c0, if_neg (show ¬ (bt s q = 45 ∧ chomp = 0) from fun c => c0 c.2)]
            exact spec_HeadAt_rest s hs digit chomp q k (by omega)
        · rw [if_neg c45, if_neg (show ¬ (bt s q = 45 ∧ chomp = 0) from fun c => c45 c.1)]
          exact spec_HeadAt_rest s hs digit chomp q k (by omega)
      by_cases c43 : bt s q = 43
      · rw [if_pos c43]
        by_cases c0 : chomp = 0
        · rw [show (chomp == 0) = true by simp [c0], if_pos (show bt s q = 43 ∧ chomp = 0 from ⟨c43, c0⟩), spec_HeadAt.j3, if_pos rfl, e1]
          unfold headLeft at hl
          rw [if_pos c0] at hl
          exact ih (by omega) k digit 2 (q + 1) (by omega) (by omega) (by unfold headLeft; rw [if_neg (show ¬ (2 : Int) = 0 by decide)]; omega) (by omega)
        · rw [show (chomp == 0) = false by simp [c0], if_neg (show ¬ (bt s q = 43 ∧ chomp = 0) from fun c => c0 c.2)]
          exact j3f (fun c => c0 c.2)
      · rw [if_neg c43, if_neg (show ¬ (bt s q = 43 ∧ chomp = 0) from fun c => c43 c.1)]
        exact j3f (fun c => c43 c.1)
    by_cases ca : bt s q ≥ 49
    · rw [if_pos ca]
      by_cases cb : bt s q ≤ 57
      · rw [if_pos cb]
        by_cases c0 : digit = 0
        · rw [show (digit == 0) = true by simp [c0], if_pos (show 49 ≤ bt s q ∧ bt s q ≤ 57 ∧ digit = 0 from ⟨ca, cb, c0⟩), spec_HeadAt.j2, if_pos rfl, if_pos h0, if_pos hq, e1, show (bt s q - 48) % 256 = bt s q - 48 by omega]
          unfold headLeft at hl
          rw [if_pos c0] at hl
          exact ih (by omega) (k + 1) (bt s q - 48) chomp (q + 1) (by omega) (by omega) (by unfold headLeft; rw [if_neg (show ¬ (bt s q - 48 = 0) by omega)]; omega) (by omega)
        · rw [show (digit == 0) = false by simp [c0], if_neg (show ¬ (49 ≤ bt s q ∧ bt s q ≤ 57 ∧ digit = 0) from fun c => c0 c.2.2)]
          exact j2f (fun c => c0 c.2.2)
      · rw [if_neg cb, if_neg (show ¬ (49 ≤ bt s q ∧ bt s q ≤ 57 ∧ digit = 0) from fun c => cb c.2.1)]
        exact j2f (fun c => cb c.2.1)
    · rw [if_neg ca, if_neg (show ¬ (49 ≤ bt s q ∧ bt s q ≤ 57 ∧ digit = 0) from fun c => ca c.1)]
      exact j2f (fun c => ca c.1)
  · have hb : byteM s q = -1 := byteM_end (by omega)
    rw [if_neg hq, hb, if_neg (show ¬ ((49 : Int) ≤ -1 ∧ (-1 : Int) ≤ 57 ∧ digit = 0) by omega), if_neg (show ¬ ((-1 : Int) = 43 ∧ chomp = 0) by omega), if_neg (show ¬ ((-1 : Int) = 45 ∧ chomp = 0) by omega)]
    exact spec_HeadAt_rest s hs digit chomp q (k + 2) (by omega)
theorem spec_HeadAt_l0 (s : ByteArray) (hs : s.size ≤ 140737488351232) (d : Nat) : ∀ (k : Nat) (digit chomp q : Int), 0 ≤ q → q ≤ s.size → headLeft digit chomp ≤ d → s.size + 3 * d + 4 ≤ k → spec_HeadAt.l0 k s digit chomp q = some (headN s d digit chomp q) := by
  induction d with
  | zero => exact spec_HeadAt_step s hs 0 (fun h => by omega)
  | succ d ih => exact spec_HeadAt_step s hs (d + 1) (fun _ => ih)
theorem spec_HeadAt_ok (s : ByteArray) (p : Int) (hs : s.size ≤ 140737488351232) (k : Nat) (hk : s.size + 20 ≤ k) : spec_HeadAt.f k s p = some (headM s p) := by
  have h0 := spotM_lo s p
  have h1 := spotM_hi s p
  obtain ⟨k, rfl⟩ : ∃ m, k = m + 1 := ⟨k - 1, by omega⟩
  simp only [spec_HeadAt.f, spec_l01P_ok, Option.bind_some, headM]
  generalize spotM s p = q at h0 h1 ⊢
  have jt : spec_HeadAt.j0 (k + 1) s q true = some (0, 0, q, 10) := by rw [spec_HeadAt.j0, if_pos rfl]
  by_cases hq : q < s.size
  · have jf : spec_HeadAt.j0 (k + 1) s q false = some (headN s 2 0 0 (q + 1)) := by
      rw [spec_HeadAt.j0, if_neg (by decide), w64 (by omega) (by omega)]
      exact spec_HeadAt_l0 s hs 2 k 0 0 (q + 1) (by omega) (by omega) (by decide) (by omega)
    rw [if_neg (by omega), if_pos h0, if_pos hq, byteM_in h0 hq]
    by_cases c : bt s q = 124
    · rw [if_pos c, jf, if_pos (show bt s q = 124 ∨ bt s q = 62 from .inl c)]
    · rw [if_neg c]
      by_cases c2 : bt s q = 62
      · rw [show (bt s q != 62) = false by simp [c2], jf, if_pos (show bt s q = 124 ∨ bt s q = 62 from .inr c2)]
      · rw [show (bt s q != 62) = true by simp [c2], jt, if_neg (show ¬ (bt s q = 124 ∨ bt s q = 62) by omega)]
  · rw [if_pos (by omega), jt, byteM_end (by omega), if_neg (by decide)]

theorem impl_within_ok (a b c : Int) : impl_within.f a b c = some (decide (b ≤ a ∧ a ≤ c)) := by
  unfold impl_within.f
  by_cases h : a ≥ b
  · rw [if_pos h]; simp only [Option.some.injEq, decide_eq_decide]; omega
  · rw [if_neg h]; simp only [Option.some.injEq]; symm; simp only [decide_eq_false_iff_not]; omega

theorem impl_spot_ok (s : ByteArray) (p : Int) : impl_spot.f s p = some (spotM s p) := by
  unfold impl_spot.f; rw [mn_mx_spotM]

theorem impl_byteAt_ok (s : ByteArray) (p : Int) : impl_byteAt.f s p = some (byteM s p) := by
  have h0 := spotM_lo s p
  have h1 := spotM_hi s p
  have h2 := bt_lo s (spotM s p)
  have h3 := bt_hi s (spotM s p)
  simp only [impl_byteAt.f, impl_spot_ok, Option.bind_some]
  unfold byteM
  by_cases h : spotM s p = (s.size : Int)
  · rw [if_pos h, if_pos h]
  · rw [if_neg h, if_neg h, if_pos h0, if_pos (by omega), w64 (by omega) (by omega)]

theorem impl_isBreak_ok (b : Int) : impl_isBreak.f b = some (brB b) := by
  unfold impl_isBreak.f brB
  by_cases h : b = 10
  · simp [h]
  · rw [if_neg h]; simp [h]

theorem impl_isWhite_ok (b : Int) : impl_isWhite.f b = some (whB b) := by
  unfold impl_isWhite.f
  by_cases h : b = 32
  · rw [if_pos h, whB_iff.mpr (.inl h)]
  · rw [if_neg h]
    by_cases h9 : b = 9
    · rw [h9]; rfl
    · rw [whB_not.mpr (by omega)]; simp [h9]

theorem impl_White_l0 (s : ByteArray) (hs : s.size ≤ 140737488351232) (d : Nat) : ∀ (k : Nat) (i : Int), 0 ≤ i → i ≤ s.size → s.size - i ≤ d → d < k →
    impl_White.l0 k s i = some (upto noWh s i) := by
  induction d with
  | zero =>
    intro k i h0 h1 hd hk
    obtain ⟨k, rfl⟩ : ∃ m, k = m + 1 := ⟨k - 1, by omega⟩
    simp (disch := omega) only [impl_White.l0, impl_byteAt_ok, byteM_end, impl_isWhite_ok, Option.bind_some, upto_end]
    rfl
  | succ d ih =>
    intro k i h0 h1 hd hk
    obtain ⟨k, rfl⟩ : ∃ m, k = m + 1 := ⟨k - 1, by omega⟩
    by_cases hi : i < s.size
    · simp (disch := omega) only [impl_White.l0, impl_byteAt_ok, byteM_in, impl_isWhite_ok, Option.bind_some]
      by_cases hb : whB (bt s i) = true
      · rw [if_pos hb, upto_next hi (by simp [noWh, hb]), w64 (by omega) (by omega)]
        exact ih k (i + 1) (by omega) (by omega) (by omega) (by omega)
      · rw [if_neg hb, upto_hit hi (by simpa [noWh] using hb)]
    · simp (disch := omega) only [impl_White.l0, impl_byteAt_ok, byteM_end, impl_isWhite_ok, Option.bind_some, upto_end]
      rfl
theorem impl_White_ok (s : ByteArray) (p : Int) (hs : s.size ≤ 140737488351232) (k : Nat) (hk : s.size < k) : impl_White.f k s p = some (whiteM s p) := by
  have h0 := spotM_lo s p
  have h1 := spotM_hi s p
  simp only [impl_White.f, impl_spot_ok, Option.bind_some]
  exact impl_White_l0 s hs s.size k _ h0 h1 (by omega) hk

theorem bytealg_LastIndexByteString_l0 (s : ByteArray) (c : Int) (hs : s.size ≤ 140737488351232) (d : Nat) : ∀ (k : Nat) (i : Int), -1 ≤ i → i < s.size → i < d → d < k →
    bytealg_LastIndexByteString.l0 k s c i = some (lastM c s (i + 1) - 1) := by
  induction d with
  | zero =>
    intro k i h0 h1 hd hk
    obtain ⟨k, rfl⟩ : ∃ m, k = m + 1 := ⟨k - 1, by omega⟩
    simp (disch := omega) only [bytealg_LastIndexByteString.l0, if_neg, lastM_neg]
    rfl
  | succ d ih =>
    intro k i h0 h1 hd hk
    obtain ⟨k, rfl⟩ : ∃ m, k = m + 1 := ⟨k - 1, by omega⟩
    by_cases hi : 0 ≤ i
    · by_cases hb : bt s i = c
      · have hb' : bt s (i + 1 - 1) = c := by rw [show i + 1 - 1 = i by omega]; exact hb
        rw [lastM_hit (by omega) hb']
        simp (disch := omega) only [bytealg_LastIndexByteString.l0, if_pos]
        congr 1; omega
      · have hb' : ¬ bt s (i + 1 - 1) = c := by rw [show i + 1 - 1 = i by omega]; exact hb
        rw [lastM_prev (by omega) hb']
        simp (disch := omega) only [bytealg_LastIndexByteString.l0, if_pos, if_neg, w64]
        rw [ih k (i - 1) (by omega) (by omega) (by omega) (by omega)]
        rw [show i + 1 - 1 = i - 1 + 1 by omega]
    · simp (disch := omega) only [bytealg_LastIndexByteString.l0, if_neg, lastM_neg]
      rfl
theorem bytealg_LastIndexByteString_ok (s : ByteArray) (c : Int) (hs : s.size ≤ 140737488351232) (k : Nat) (hk : s.size < k) :
    bytealg_LastIndexByteString.f k s c = some (lastM c s s.size - 1) := by
  unfold bytealg_LastIndexByteString.f
  rw [w64 (by omega) (by omega), bytealg_LastIndexByteString_l0 s c hs s.size k _ (by omega) (by omega) (by omega) hk]
  rw [show (s.size : Int) - 1 + 1 = s.size by omega]

theorem strings_LastIndexByte_ok (s : ByteArray) (c : Int) (hs : s.size ≤ 140737488351232) (k : Nat) (hk : s.size < k) :
    strings_LastIndexByte.f k s c = some (lastM c s s.size - 1) := by
  simp (disch := omega) only [strings_LastIndexByte.f, bytealg_LastIndexByteString_ok, Option.bind_some]

theorem impl_LineAt_ok (s : ByteArray) (p : Int) (hs : s.size ≤ 140737488351232) (k : Nat) (hk : s.size < k) : impl_LineAt.f k s p = some (lineM s p) := by
  have h0 := spotM_lo s p
  have h1 := spotM_hi s p
  have hz : (s.extract 0 (spotM s p).toNat).size = (spotM s p).toNat := by rw [size_ext _ _ _ (by omega)]; omega
  have hl := lastM_lo 10 (s.extract 0 (spotM s p).toNat) ((spotM s p).toNat : Int)
  have hm := lastM_hi (c := 10) (s := s.extract 0 (spotM s p).toNat) (p := ((spotM s p).toNat : Int)) (by omega)
  simp only [impl_LineAt.f, impl_spot_ok, Option.bind_some]
  rw [if_pos h0, if_pos h1, strings_LastIndexByte_ok _ _ (by omega) k (by omega), Option.bind_some, hz, w64 (by omega) (by omega)]
  unfold lineM
  rw [show ((spotM s p).toNat : Int) = spotM s p by omega] at *
  rw [show ∀ x : Int, x - 1 + 1 = x by intro x; omega]
  congr 1
  refine lastM_ext fun i a b => ?_
  rw [bt_ext (by omega) a (by omega)]
  congr 1; omega

theorem impl_EndAt_ok (s : ByteArray) (p : Int) (hs : s.size ≤ 140737488351232) : impl_EndAt.f s p = some (endM s p) := by
  have h0 := spotM_lo s p
  have h1 := spotM_hi s p
  simp only [impl_EndAt.f, impl_spot_ok, Option.bind_some]
  rw [if_pos h0, if_pos h1]
  simp only [strings_IndexByte.f, Option.bind_some]
  obtain ⟨r, hr⟩ : ∃ r, Lib.indexByte (s.extract (spotM s p).toNat s.size).data.toList (10 : Int).toNat.toUInt8 = r := ⟨_, rfl⟩
  obtain ⟨a, b, c⟩ := ix_ext h0 h1 hr
  rw [hr]
  unfold endM
  rw [← c]
  by_cases h : r < 0
  · rw [if_pos h, if_pos h]
  · rw [if_neg h, if_neg h, w64 (by omega) (by omega)]

theorem impl_Rest_ok (s : ByteArray) (p : Int) (hs : s.size ≤ 140737488351232) (k : Nat) (hk : s.size < k) : impl_Rest.f k s p = some (restM s p) := by
  have h0 := spotM_lo s p
  have h1 := spotM_hi s p
  simp (disch := omega) only [impl_Rest.f, impl_spot_ok, impl_White_ok, Option.bind_some, restM]
  generalize spotM s p = q at h0 h1 ⊢
  have w0 := whiteM_ge s q
  have w1 := whiteM_le s q
  rw [spotM_in h0 h1] at w0
  generalize whiteM s q = w at w0 w1 ⊢
  simp (disch := omega) only [impl_byteAt_ok, impl_isBreak_ok, impl_EndAt_ok, impl_LineAt_ok, Option.bind_some]
  cases hb : brB (byteM s w) with
  | true => rw [if_pos rfl, if_pos (show true = true ∨ (byteM s w = 35 ∧ (¬ w = q ∨ lineM s q = q)) from .inl rfl)]
  | false =>
    rw [if_neg (by decide)]

    by_cases c35 : byteM s w = 35
    · rw [if_pos c35]
      by_cases cq : w = q
      · rw [if_pos cq]
        by_cases cl : lineM s q = q
        · rw [if_pos cl, if_pos (show false = true ∨ (byteM s w = 35 ∧ (¬ w = q ∨ lineM s q = q)) from .inr ⟨c35, .inr cl⟩)]
        · rw [if_neg cl, if_neg (show ¬ (false = true ∨ (byteM s w = 35 ∧ (¬ w = q ∨ lineM s q = q))) from fun h => by
            rcases h with h | ⟨_, h | h⟩
            · cases h
            · exact h cq
            · exact cl h)]
      · rw [if_neg cq, if_pos (show false = true ∨ (byteM s w = 35 ∧ (¬ w = q ∨ lineM s q = q)) from .inr ⟨c35, .inl cq⟩)]
    · rw [if_neg c35, if_neg (show ¬ (false = true ∨ (byteM s w = 35 ∧ (¬ w = q ∨ lineM s q = q))) from fun h => by
        rcases h with h | ⟨h, _⟩
        · cases h
        · exact c35 h)]

theorem impl_HeadAt_step (s : ByteArray) (hs : s.size ≤ 140737488351232) (d : Nat)
    (ih : 1 ≤ d → ∀ (k : Nat) (digit chomp signs q : Int), 0 ≤ q → q ≤ s.size → headLeft digit chomp ≤ d - 1 → (signs = 0 ↔ chomp = 0) → 0 ≤ signs → signs ≤ 10 → s.size + 3 * (d - 1) + 4 ≤ k → impl_HeadAt.l0 k s digit chomp signs q = some (headN s (d - 1) digit chomp q)) :
    ∀ (k : Nat) (digit chomp signs q : Int), 0 ≤ q → q ≤ s.size → headLeft digit chomp ≤ d → (signs = 0 ↔ chomp = 0) → 0 ≤ signs → signs ≤ 10 → s.size + 3 * d + 4 ≤ k → impl_HeadAt.l0 k s digit chomp signs q = some (headN s d digit chomp q) := by
  intro k digit chomp signs q h0 h1 hl hsg hs0 hs1 hk
  obtain ⟨k, rfl⟩ : ∃ m, k = m + 3 := ⟨k - 3, by omega⟩
  rw [headN_step hl, impl_HeadAt.l0, impl_byteAt_ok, Option.bind_some, impl_within_ok, Option.bind_some]
  have hlo := byteM_lo s q
  have hhi := byteM_hi s q
  have hlt : byteM s q ≠ -1 → q < s.size := fun h => by
    by_cases c : q < s.size
    · exact c
    · exact absurd (byteM_end (by omega)) h
  generalize byteM s q = b at hlo hhi hlt ⊢
  have e1 : wrap64 (q + 1) = q + 1 := w64 (by omega) (by omega)
  have j3f : impl_HeadAt.j3 (k + 1) s b digit chomp signs q false = some (headEnd s digit chomp q) := by
    rw [impl_HeadAt.j3, if_neg (by decide), impl_Rest_ok s q hs k (by omega), Option.bind_some]
    unfold headEnd
    split <;> rfl
  have j2f : ¬ (49 ≤ b ∧ b ≤ 57 ∧ digit = 0) → impl_HeadAt.j2 (k + 2) s b digit chomp signs q false = some (if b = 43 ∧ chomp = 0 then headN s (d - 1) digit 2 (q + 1) else if b = 45 ∧ chomp = 0 then headN s (d - 1) digit 1 (q + 1) else headEnd s digit chomp q) := fun hno => by
    rw [impl_HeadAt.j2, if_neg (by decide)]
    by_cases c0 : chomp = 0
    · have hsz : signs = 0 := hsg.mpr c0
      unfold headLeft at hl
      rw [if_pos c0] at hl
      rw [show (signs == 0) = true by simp [hsz]]
      have ew : wrap64 (signs + 1) = signs + 1 := w64 (by omega) (by omega)
      by_cases c43 : b = 43
      · have := hlt (by omega)
        rw [if_pos c43, impl_HeadAt.j3, if_pos rfl, if_neg (by omega), if_pos (show b = 43 ∧ chomp = 0 from ⟨c43, c0⟩), e1, ew]
        exact ih (by omega) k digit 2 (signs + 1) (q + 1) (by omega) (by omega) (by unfold headLeft; rw [if_neg (show ¬ (2 : Int) = 0 by decide)]; omega) (by omega) (by omega) (by omega) (by omega)
      · rw [if_neg c43, if_neg (show ¬ (b = 43 ∧ chomp = 0) from fun c => c43 c.1)]
        by_cases c45 : b = 45
        · have := hlt (by omega)
          rw [if_pos c45, impl_HeadAt.j3, if_pos rfl, if_pos c45, if_pos (show b = 45 ∧ chomp = 0 from ⟨c45, c0⟩), e1, ew]
          exact ih (by omega) k digit 1 (signs + 1) (q + 1) (by omega) (by omega) (by unfold headLeft; rw [if_neg (show ¬ (1 : Int) = 0 by decide)]; omega) (by omega) (by omega) (by omega) (by omega)
        · rw [if_neg c45, if_neg (show ¬ (b = 45 ∧ chomp = 0) from fun c => c45 c.1)]
          exact j3f
    · rw [show (signs == 0) = false by simp; exact fun c => c0 (hsg.mp c), if_neg (show ¬ (b = 43 ∧ chomp = 0) from fun c => c0 c.2), if_neg (show ¬ (b = 45 ∧ chomp = 0) from fun c => c0 c.2), j3f]
      split
      · rfl
      · split <;> rfl
  by_cases cd : 49 ≤ b ∧ b ≤ 57
  · rw [show decide (49 ≤ b ∧ b ≤ 57) = true by simpa using cd, if_pos rfl]
    by_cases c0 : digit = 0
    · have := hlt (by omega)
      rw [show (digit == 0) = true by simp [c0], if_pos (show 49 ≤ b ∧ b ≤ 57 ∧ digit = 0 from ⟨cd.1, cd.2, c0⟩), impl_HeadAt.j2, if_pos rfl, e1, w64 (n := b - 48) (by omega) (by omega)]
      unfold headLeft at hl
      rw [if_pos c0] at hl
      exact ih (by omega) (k + 1) (b - 48) chomp signs (q + 1) (by omega) (by omega) (by unfold headLeft; rw [if_neg (show ¬ (b - 48 = 0) by omega)]; omega) hsg hs0 hs1 (by omega)
    · rw [show (digit == 0) = false by simp [c0], if_neg (show ¬ (49 ≤ b ∧ b ≤ 57 ∧ digit = 0) from fun c => c0 c.2.2)]
      exact j2f (fun c => c0 c.2.2)
  · rw [show decide (49 ≤ b ∧ b ≤ 57) = false by simp only [decide_eq_false_iff_not]; exact cd, if_neg (by decide), if_neg (show ¬ (49 ≤ b ∧ b ≤ 57 ∧ digit = 0) from fun c => cd ⟨c.1, c.2.1⟩)]
    exact j2f (fun c => cd ⟨c.1, c.2.1⟩)
theorem impl_HeadAt_l0 (s : ByteArray) (hs : s.size ≤ 140737488351232) (d : Nat) : ∀ (k : Nat) (digit chomp signs q : Int), 0 ≤ q → q ≤ s.size → headLeft digit chomp ≤ d → (signs = 0 ↔ chomp = 0) → 0 ≤ signs → signs ≤ 10 → s.size + 3 * d + 4 ≤ k → impl_HeadAt.l0 k s digit chomp signs q = some (headN s d digit chomp q) := by
  induction d with
  | zero => exact impl_HeadAt_step s hs 0 (fun h => by omega)
  | succ d ih => exact impl_HeadAt_step s hs (d + 1) (fun _ => ih)
theorem impl_HeadAt_ok (s : ByteArray) (p : Int) (hs : s.size ≤ 140737488351232) (k : Nat) (hk : s.size + 20 ≤ k) : impl_HeadAt.f k s p = some (headM s p) := by
  have h0 := spotM_lo s p
  have h1 := spotM_hi s p
  obtain ⟨k, rfl⟩ : ∃ m, k = m + 1 := ⟨k - 1, by omega⟩
  simp only [impl_HeadAt.f, impl_spot_ok, impl_byteAt_ok, Option.bind_some, headM]
  generalize spotM s p = q at h0 h1 ⊢
  have jt : impl_HeadAt.j0 (k + 1) s q true = some (0, 0, q, 10) := by rw [impl_HeadAt.j0, if_pos rfl]
  have jf : q < s.size → impl_HeadAt.j0 (k + 1) s q false = some (headN s 2 0 0 (q + 1)) := fun hq => by
    rw [impl_HeadAt.j0, if_neg (by decide), w64 (by omega) (by omega)]
    exact impl_HeadAt_l0 s hs 2 k 0 0 0 (q + 1) (by omega) (by omega) (by decide) (by omega) (by omega) (by omega) (by omega)
  have hlt : byteM s q ≠ -1 → q < s.size := fun h => by
    by_cases c : q < s.size
    · exact c
    · exact absurd (byteM_end (by omega)) h
  by_cases c : byteM s q = 124
  · rw [if_pos c, jf (hlt (by omega)), if_pos (show byteM s q = 124 ∨ byteM s q = 62 from .inl c)]
  · rw [if_neg c]
    by_cases c2 : byteM s q = 62
    · rw [show (byteM s q != 62) = false by simp [c2], jf (hlt (by omega)), if_pos (show byteM s q = 124 ∨ byteM s q = 62 from .inr c2)]
    · rw [show (byteM s q != 62) = true by simp [c2], jt, if_neg (show ¬ (byteM s q = 124 ∨ byteM s q = 62) by omega)]

theorem FnExactHeadAt : laws_FnExactHeadAt.Pure := by
  intro s p hs hp
  by_cases h : (s.size : Int) > 1048576
  · exact ⟨0, by simp only [laws_FnExactHeadAt.f, if_pos h]⟩
  · refine ⟨2 * s.size + 100, ?_⟩
    simp (disch := omega) only [laws_FnExactHeadAt.f, if_neg, spec_HeadAt_ok, impl_HeadAt_ok, Option.bind_some, if_true]

end Go.Proofs.Ytjbhflicehnocaa.Pure
