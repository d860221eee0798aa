/- The statement FnExactTextNum, for every input. -/
import Derived.Test.YtopgcllcmgkibaaPFnExactTextNumx0
import Derived.Test.YtopgcllcmgkibaaPFnExactTextNumx1
import Derived.Test.YtopgcllcmgkibaaPFnExactTextNumx2
import Derived.Test.YtopgcllcmgkibaaMine
import Derived.Test.YtopgcllcmgkibaaTxt
namespace Go.Proofs.Ytopgcllcmgkibaa.Pure
open Go.RowKit Go.Proofs.Ytopgcllcmgkibaa.PFnExactTextNum Go.Proofs.YtopgcllcmgkibaaW.PrintWords Go.Proofs.YtopgcllcmgkibaaW.PrintLast Go.Proofs.YtopgcllcmgkibaaW.PrintMore Go.Proofs.Ytopgcllcmgkibaa.Mine

theorem spec_NumText_in (d : Nat) : ∀ (k : Nat) (n : Int), 0 ≤ n → n ≤ 4294967295 → n ≤ d → 2 * d + 2 ≤ k → spec_NumText.f k n = some (decM n.toNat) := by
  induction d with
  | zero =>
    intro k n h0 h1 hd hk
    obtain ⟨k, rfl⟩ : ∃ m, k = m + 2 := ⟨k - 2, by omega⟩
    obtain rfl : n = 0 := by omega
    simp only [spec_NumText.f]
    rw [if_neg (by omega), show decide ((0 : Int) > 4294967295) = false from rfl]
    simp only [spec_NumText.j0, Bool.false_eq_true, if_false]
    rw [if_pos (by omega), decM_small (by decide), w64 (by omega) (by omega)]
    unfold digC
    rw [show ((48 : Int) + 0) % 256 = 48 + ((Int.toNat 0 : Nat) : Int) from rfl]
  | succ d ih =>
    intro k n h0 h1 hd hk
    obtain ⟨k, rfl⟩ : ∃ m, k = m + 2 := ⟨k - 2, by omega⟩
    simp only [spec_NumText.f]
    rw [if_neg (by omega), show decide (n > 4294967295) = false by simp; omega]
    simp only [spec_NumText.j0, Bool.false_eq_true, if_false]
    by_cases h : n < 10
    · rw [if_pos h, decM_small (by omega), w64 (by omega) (by omega)]
      unfold digC
      rw [show (48 + n) % 256 = 48 + ((n.toNat : Nat) : Int) by omega]
    · rw [if_neg h, Int.tdiv_eq_ediv_of_nonneg h0, Int.tmod_eq_emod_of_nonneg h0, w64 (by omega) (by omega), ih k (n / 10) (by omega) (by omega) (by omega) (by omega)]
      have hs := decM_size (n / 10).toNat
      simp only [Option.bind_some]
      rw [if_pos (by rw [son_size]; simp only [List.length_cons, List.length_nil]; omega), decM_big (n := n.toNat) (by omega), w64 (by omega) (by omega)]
      unfold digC
      rw [show (n / 10).toNat = n.toNat / 10 by omega, show (48 + n % 10) % 256 = 48 + ((n.toNat % 10 : Nat) : Int) by omega]
theorem spec_NumText_ok (n : Int) (k : Nat) (hk : 8589934600 ≤ k) : spec_NumText.f k n = some (numM n) := by
  unfold numM
  by_cases h : 0 ≤ n ∧ n ≤ 4294967295
  · rw [if_pos h]; exact spec_NumText_in n.toNat k n h.1 h.2 (by omega) (by omega)
  · rw [if_neg h]
    obtain ⟨k, rfl⟩ : ∃ m, k = m + 2 := ⟨k - 2, by omega⟩
    simp only [spec_NumText.f]
    by_cases h0 : n < 0
    · rw [if_pos h0]; rfl
    · rw [if_neg h0, show decide (n > 4294967295) = true by simp; omega]; rfl

theorem spec_TextNum_l0 (s : ByteArray) (hs : s.size ≤ 10) (d : Nat) : ∀ (k : Nat) (n i : Int), 0 ≤ i → (s.size : Int) = i + d → 8589934600 + d < k →
    spec_TextNum.l0 k s n i = some (tnEnd s (tnN s d n i)) := by
  induction d with
  | zero =>
    intro k n i h0 h1 hk
    obtain ⟨k, rfl⟩ : ∃ m, k = m + 1 := ⟨k - 1, by omega⟩
    simp only [spec_TextNum.l0]
    rw [if_neg (by omega), spec_NumText_ok n k (by omega)]
    simp only [Option.bind_some, tnN, tnEnd, tl_inj]
    split <;> rfl
  | succ d ih =>
    intro k n i h0 h1 hk
    obtain ⟨k, rfl⟩ : ∃ m, k = m + 1 := ⟨k - 1, by omega⟩
    simp only [spec_TextNum.l0, tnN]
    rw [if_pos (by omega), if_pos h0]
    by_cases ha : bt s i < 48
    · rw [if_pos ha, if_pos (.inl ha)]; rfl
    · rw [if_neg ha]
      by_cases hb : bt s i > 57
      · rw [if_pos hb, if_pos (.inr hb)]; rfl
      · rw [if_neg hb, if_neg (by omega), w64 (n := i + 1) (by omega) (by omega), Int.mul_comm n 10]
        exact ih k _ (i + 1) (by omega) (by omega) (by omega)
theorem spec_TextNum_ok (s : ByteArray) (k : Nat) (hk : 8589934700 ≤ k) : spec_TextNum.f k s = some (textNumM s) := by
  obtain ⟨k, rfl⟩ : ∃ m, k = m + 1 := ⟨k - 1, by omega⟩
  unfold spec_TextNum.f textNumM
  by_cases h : 1 ≤ s.size ∧ s.size ≤ 10
  · rw [if_neg (by omega), if_pos h, show decide ((s.size : Int) > 10) = false by simp; omega]
    simp only [spec_TextNum.j0, Bool.false_eq_true, if_false]
    exact spec_TextNum_l0 s h.2 s.size k 0 0 (by omega) (by omega) (by omega)
  · rw [if_neg h]
    by_cases h1 : (s.size : Int) < 1
    · rw [if_pos h1]; rfl
    · rw [if_neg h1, show decide ((s.size : Int) > 10) = true by simp; omega]; rfl

theorem impl_within_ok (a b c : Int) : impl_within.f a b c = some (decide (b ≤ a ∧ a ≤ c)) := by
  unfold impl_within.f
  by_cases h : a ≥ b
  · rw [if_pos h]; simp only [Option.some.injEq, decide_eq_decide]; omega
  · rw [if_neg h]; simp only [Option.some.injEq]; symm; simp only [decide_eq_false_iff_not]; omega

theorem impl_decimal_l0 (d : Nat) : ∀ (k : Nat) (n : Int) (out : ByteArray), 0 ≤ n → n ≤ d → d < k → 1 ≤ out.size → out.size + d ≤ 4611686018427387904 →
    impl_decimal.l0 k n out = some ((if n > 0 then decM n.toNat else ⟨#[]⟩) ++ out) := by
  induction d with
  | zero =>
    intro k n out h0 hd hk ho hs
    obtain ⟨k, rfl⟩ : ∃ m, k = m + 1 := ⟨k - 1, by omega⟩
    have he : ¬ out.toList = ([] : List UInt8) := fun e => by have := tl_nil.mp e; omega
    simp only [impl_decimal.l0]
    rw [if_neg he, if_neg (by omega), if_neg (by omega), nil_app]
  | succ d ih =>
    intro k n out h0 hd hk ho hs
    obtain ⟨k, rfl⟩ : ∃ m, k = m + 1 := ⟨k - 1, by omega⟩
    have he : ¬ out.toList = ([] : List UInt8) := fun e => by have := tl_nil.mp e; omega
    simp only [impl_decimal.l0]
    rw [if_neg he]
    by_cases h : n > 0
    · rw [if_pos h, if_pos h]
      simp only [Option.bind_some]
      rw [Int.tdiv_eq_ediv_of_nonneg h0, Int.tmod_eq_emod_of_nonneg h0, w64 (n := n / 10) (by omega) (by omega), w64 (n := 48 + n % 10) (by omega) (by omega)]
      have hz : (strOfNums [(48 + n % 10) % 256]).size = 1 := by rw [son_size]; rfl
      rw [if_pos (by omega), ih k (n / 10) _ (by omega) (by omega) (by omega) (by rw [size_app]; omega) (by rw [size_app]; omega)]
      rw [← app_assoc]
      congr 2
      have e : strOfNums [(48 + n % 10) % 256] = digC ((n.toNat % 10 : Nat) : Int) := by
        unfold digC; rw [show (48 + n % 10) % 256 = 48 + ((n.toNat % 10 : Nat) : Int) by omega]
      rw [e]
      by_cases h9 : n < 10
      · rw [if_neg (by omega), nil_app, decM_small (by omega)]
        rw [show n.toNat % 10 = n.toNat by omega]
      · rw [if_pos (by omega), decM_big (n := n.toNat) (by omega)]
        rw [show (n / 10).toNat = n.toNat / 10 by omega]
    · rw [if_neg h, if_neg h, nil_app]
theorem impl_decimal_ok (n : Int) (h0 : 0 ≤ n) (h1 : n ≤ 4294967295) (k : Nat) (hk : 8589934600 ≤ k) : impl_decimal.f k n = some (decM n.toNat) := by
  obtain ⟨k, rfl⟩ : ∃ m, k = m + 1 := ⟨k - 1, by omega⟩
  unfold impl_decimal.f
  simp only [impl_decimal.l0]
  rw [if_pos (tl_nil.mpr rfl)]
  simp only [Option.bind_some]
  rw [Int.tdiv_eq_ediv_of_nonneg h0, Int.tmod_eq_emod_of_nonneg h0, w64 (n := n / 10) (by omega) (by omega), w64 (n := 48 + n % 10) (by omega) (by omega)]
  have hz : (strOfNums [(48 + n % 10) % 256]).size = 1 := by rw [son_size]; rfl
  rw [if_pos (by rw [hz, size_none]; omega), app_nil, impl_decimal_l0 (n / 10).toNat k _ _ (by omega) (by omega) (by omega) (by omega) (by omega)]
  have e : strOfNums [(48 + n % 10) % 256] = digC ((n.toNat % 10 : Nat) : Int) := by
    unfold digC; rw [show (48 + n % 10) % 256 = 48 + ((n.toNat % 10 : Nat) : Int) by omega]
  rw [e]
  by_cases h9 : n < 10
  · rw [if_neg (by omega), nil_app, decM_small (by omega)]
    rw [show n.toNat % 10 = n.toNat by omega]
  · rw [if_pos (by omega), decM_big (n := n.toNat) (by omega)]
    rw [show (n / 10).toNat = n.toNat / 10 by omega]

theorem impl_NumText_ok (n : Int) (k : Nat) (hk : 8589934600 ≤ k) : impl_NumText.f k n = some (numM n) := by
  simp only [impl_NumText.f, impl_within_ok, Option.bind_some, decide_eq_true_eq]
  unfold numM
  by_cases h : 0 ≤ n ∧ n ≤ 4294967295
  · rw [if_pos h, if_pos h, impl_decimal_ok n h.1 h.2 k hk]; rfl
  · rw [if_neg h, if_neg h]

theorem impl_TextNum_l0 (s : ByteArray) (hs : s.size ≤ 10) (d : Nat) : ∀ (k : Nat) (n i : Int), 0 ≤ i → (s.size : Int) = i + d → 8589934600 + d < k →
    impl_TextNum.l0 k s n (s.size : Int) i = some (tnEnd s (tnN s d n i)) := by
  induction d with
  | zero =>
    intro k n i h0 h1 hk
    obtain ⟨k, rfl⟩ : ∃ m, k = m + 1 := ⟨k - 1, by omega⟩
    simp only [impl_TextNum.l0]
    rw [if_neg (by omega), impl_NumText_ok n k (by omega)]
    simp only [Option.bind_some, tnN, tnEnd, tl_inj]
    split <;> rfl
  | succ d ih =>
    intro k n i h0 h1 hk
    obtain ⟨k, rfl⟩ : ∃ m, k = m + 1 := ⟨k - 1, by omega⟩
    simp only [impl_TextNum.l0, tnN]
    rw [if_pos (by omega), if_pos h0, if_pos (by omega)]
    by_cases ha : bt s i < 48
    · rw [if_pos ha, if_pos (.inl ha)]; rfl
    · rw [if_neg ha]
      by_cases hb : bt s i > 57
      · rw [if_pos hb, if_pos (.inr hb)]; rfl
      · rw [if_neg hb, if_neg (by omega), w64 (n := i + 1) (by omega) (by omega)]
        exact ih k _ (i + 1) (by omega) (by omega) (by omega)
theorem impl_TextNum_ok (s : ByteArray) (k : Nat) (hk : 8589934700 ≤ k) : impl_TextNum.f k s = some (textNumM s) := by
  unfold textNumM
  simp only [impl_TextNum.f, impl_within_ok, Option.bind_some, decide_eq_true_eq]
  by_cases h : 1 ≤ s.size ∧ s.size ≤ 10
  · rw [if_pos (by omega), if_pos h]
    exact impl_TextNum_l0 s h.2 s.size k 0 0 (by omega) (by omega) (by omega)
  · rw [if_neg (by omega), if_neg h]

theorem FnExactTextNum : laws_FnExactTextNum.Pure := by
  intro s hs
  obtain ⟨k, hk⟩ : ∃ k : Nat, 8589934700 ≤ k := ⟨_, Nat.le_refl _⟩
  refine ⟨k, ?_⟩
  simp only [laws_FnExactTextNum.f, spec_TextNum_ok s k hk, impl_TextNum_ok s k hk, Option.bind_some, if_true, bne_self_eq_false, Bool.false_eq_true, if_false]
  split <;> rfl

end Go.Proofs.Ytopgcllcmgkibaa.Pure
