/- The statement FnExactHandleOk, for every input. -/
import Derived.Test.YtnkbmfbmcpdcpaaPFnExactHandleOkx0
import Derived.Test.YtnkbmfbmcpdcpaaPFnExactHandleOkx1
import Derived.Test.YtnkbmfbmcpdcpaaPFnExactHandleOkx2
import Derived.Test.YtnkbmfbmcpdcpaaMine
import Derived.Test.YtnkbmfbmcpdcpaaTxt
namespace Go.Proofs.Ytnkbmfbmcpdcpaa.Pure
open Go.RowKit Go.Proofs.Ytnkbmfbmcpdcpaa.PFnExactHandleOk Go.Proofs.YtnkbmfbmcpdcpaaW.PrintWords Go.Proofs.YtnkbmfbmcpdcpaaW.PrintLast Go.Proofs.YtnkbmfbmcpdcpaaW.PrintMore Go.Proofs.Ytnkbmfbmcpdcpaa.Mine

theorem spec_l04Word_l0 (s : ByteArray) (hs : s.size ≤ 140737488351232) (d : Nat) : ∀ (k : Nat) (i : Int), 0 ≤ i → (s.size : Int) - i = d → d < k → spec_l04Word.l0 k s i = some (allN wordB s d i) := by
  induction d with
  | zero =>
    intro k i h0 hd hk
    obtain ⟨k, rfl⟩ : ∃ m, k = m + 1 := ⟨k - 1, by omega⟩
    rw [spec_l04Word.l0, if_neg (by omega)]
    rfl
  | succ d ih =>
    intro k i h0 hd hk
    obtain ⟨k, rfl⟩ : ∃ m, k = m + 1 := ⟨k - 1, by omega⟩
    have e : spec_l04Word.l0 k s (i + 1) = some (allN wordB s d (i + 1)) := ih k (i + 1) (by omega) (by omega) (by omega)
    rw [spec_l04Word.l0, if_pos (by omega), if_pos h0, w64 (by omega) (by omega), e]
    simp only [allN]
    generalize allN wordB s d (i + 1) = v
    generalize bt s i = b
    by_cases hw : wordB b = true
    · rw [hw, Bool.true_and]
      rw [wordB_iff] at hw
      repeat' split
      all_goals first | rfl | (exfalso; omega)
    · rw [Bool.not_eq_true] at hw
      rw [hw, Bool.false_and]
      rw [wordB_not] at hw
      repeat' split
      all_goals first | rfl | (exfalso; omega)
theorem spec_l04Word_ok (s : ByteArray) (hs : s.size ≤ 140737488351232) (k : Nat) (hk : s.size < k) : spec_l04Word.f k s = some (allN wordB s s.size 0) :=
  spec_l04Word_l0 s hs s.size k 0 (by omega) (by omega) hk

theorem spec_l04Name_ok (s : ByteArray) (hs : s.size ≤ 9223372036854775807) (k : Nat) (hk : 70 ≤ k) : spec_l04Name.f k s = some (nameM s) := by
  unfold spec_l04Name.f nameM
  by_cases c1 : s.toList = ([33] : List UInt8)
  · rw [if_pos c1]
    have c1' := tl_one.mp c1
    have hb : bt s 0 = 33 := c1'.2
    rw [c1'.1, show decide (1 ≤ 1 ∧ 1 ≤ 60 ∧ bt s 0 = 33 ∧ bt s (((1 : Nat) : Int) - 1) = 33) = true by simp only [decide_eq_true_eq]; exact ⟨by omega, by omega, hb, hb⟩]
    rfl
  · rw [if_neg c1]
    have n1 : ¬ (s.size = 1 ∧ bt s 0 = 33) := fun h => c1 (tl_one.mpr ⟨h.1, h.2⟩)
    by_cases c2 : s.toList = ([33, 33] : List UInt8)
    · rw [if_pos c2]
      have c2' := tl_two.mp c2
      have hb : bt s 0 = 33 := c2'.2.1
      have hb1 : bt s 1 = 33 := c2'.2.2
      rw [c2'.1, show decide (1 ≤ 2 ∧ 2 ≤ 60 ∧ bt s 0 = 33 ∧ bt s (((2 : Nat) : Int) - 1) = 33) = true by simp only [decide_eq_true_eq]; exact ⟨by omega, by omega, hb, hb1⟩]
      rfl
    · rw [if_neg c2]
      have n2 : ¬ (s.size = 2 ∧ bt s 0 = 33 ∧ bt s 1 = 33) := fun h => c2 (tl_two.mpr ⟨h.1, h.2.1, h.2.2⟩)
      have hno : ¬ (3 ≤ s.size ∧ s.size ≤ 60 ∧ bt s 0 = 33 ∧ bt s ((s.size : Int) - 1) = 33) → decide (1 ≤ s.size ∧ s.size ≤ 60 ∧ bt s 0 = 33 ∧ bt s ((s.size : Int) - 1) = 33) = false := fun h => by
        simp only [decide_eq_false_iff_not]
        intro ⟨a, b, c, d⟩
        by_cases e1 : s.size = 1
        · exact n1 ⟨e1, c⟩
        · by_cases e2 : s.size = 2
          · rw [e2] at d
            exact n2 ⟨e2, c, d⟩
          · exact h ⟨by omega, b, c, d⟩
      by_cases h2 : (s.size : Int) > 2
      · rw [if_pos h2]
        by_cases h60 : (s.size : Int) ≤ 60
        · rw [if_pos h60, if_pos (by omega), w64 (by omega) (by omega)]
          by_cases hb : bt s 0 = 33
          · rw [if_pos hb, if_pos (by omega), if_pos (by omega)]
            by_cases hl : bt s ((s.size : Int) - 1) = 33
            · rw [if_pos hl, if_pos (by omega), if_pos (by omega)]
              have hz : (s.extract 1 ((s.size : Int) - 1).toNat).size = s.size - 2 := by rw [size_ext _ _ _ (by omega)]; omega
              rw [spec_l04Word_ok _ (by omega) k (by omega), Option.bind_some, hz, allN_ext (by omega) _ 0 (by omega) (by omega)]
              rw [show decide (1 ≤ s.size ∧ s.size ≤ 60 ∧ bt s 0 = 33 ∧ bt s ((s.size : Int) - 1) = 33) = true by simp only [decide_eq_true_eq]; omega, Bool.true_and]
              rfl
            · rw [if_neg hl, hno (fun h => hl h.2.2.2), Bool.false_and]
          · rw [if_neg hb, hno (fun h => hb h.2.2.1), Bool.false_and]
        · rw [if_neg h60, hno (by omega), Bool.false_and]
      · rw [if_neg h2, hno (by omega), Bool.false_and]

theorem spec_HandleOk_l0 (n p : ByteArray) (hn : n.size ≤ 9223372036854775807) (hp : p.size ≤ 140737488351232) (d : Nat) : ∀ (k : Nat) (i : Int), 0 ≤ i → (p.size : Int) - i = d → d + 71 ≤ k →
    spec_HandleOk.l0 k i n p = some (nameM n && decide (1 ≤ p.size ∧ p.size ≤ 60) && allN prB p d i) := by
  induction d with
  | zero =>
    intro k i h0 hd hk
    obtain ⟨k, rfl⟩ : ∃ m, k = m + 1 := ⟨k - 1, by omega⟩
    rw [spec_HandleOk.l0, if_neg (by omega), spec_l04Name_ok n hn k (by omega), Option.bind_some]
    simp only [allN, Bool.and_true]
    cases nameM n with
    | false => simp
    | true =>
      rw [if_pos rfl, Bool.true_and]
      by_cases c : (p.size : Int) ≥ 1
      · rw [if_pos c]; congr 1; rw [decide_eq_decide]; omega
      · rw [if_neg c]; congr 1; symm; simp only [decide_eq_false_iff_not]; omega
  | succ d ih =>
    intro k i h0 hd hk
    obtain ⟨k, rfl⟩ : ∃ m, k = m + 1 := ⟨k - 1, by omega⟩
    rw [spec_HandleOk.l0, if_pos (by omega), if_pos h0]
    simp only [allN]
    by_cases a : bt p i < 33
    · rw [if_pos a, prB_not.mpr (by omega), Bool.false_and, Bool.and_false]
    · rw [if_neg a]
      by_cases b : bt p i > 126
      · rw [if_pos b, prB_not.mpr (by omega), Bool.false_and, Bool.and_false]
      · rw [if_neg b, prB_iff.mpr (by omega), Bool.true_and, w64 (by omega) (by omega)]
        exact ih k (i + 1) (by omega) (by omega) (by omega)
theorem spec_HandleOk_ok (n p : ByteArray) (hn : n.size ≤ 9223372036854775807) (hp : p.size ≤ 140737488351232) (k : Nat) (hk : p.size + 71 ≤ k) : spec_HandleOk.f k n p = some (handleM n p) :=
  spec_HandleOk_l0 n p hn hp p.size k 0 (by omega) (by omega) hk

theorem impl_within_ok (a b c : Int) : impl_within.f a b c = some (decide (b ≤ a ∧ a ≤ c)) := by
  unfold impl_within.f
  by_cases h : a ≥ b
  · rw [if_pos h]; simp only [Option.some.injEq, decide_eq_decide]; omega
  · rw [if_neg h]; simp only [Option.some.injEq]; symm; simp only [decide_eq_false_iff_not]; omega

theorem impl_isWord_ok (b : Int) : impl_isWord.f b = some (wordB b) := by
  unfold impl_isWord.f wordB
  repeat' split
  all_goals
    rw [Option.some.injEq, Bool.eq_iff_iff]
    simp only [beq_iff_eq, decide_eq_true_eq, true_iff]
    omega

theorem impl_nameOk_l0 (s : ByteArray) (hs : s.size ≤ 60) (d : Nat) : ∀ (k : Nat) (i : Int), 1 ≤ i → (s.size : Int) - 1 - i = d → d < k → impl_nameOk.l0 k s i = some (allN wordB s d i) := by
  induction d with
  | zero =>
    intro k i h0 hd hk
    obtain ⟨k, rfl⟩ : ∃ m, k = m + 1 := ⟨k - 1, by omega⟩
    simp (disch := omega) only [impl_nameOk.l0, w64, if_neg, allN]
  | succ d ih =>
    intro k i h0 hd hk
    obtain ⟨k, rfl⟩ : ∃ m, k = m + 1 := ⟨k - 1, by omega⟩
    simp (disch := omega) only [impl_nameOk.l0, w64, if_pos, impl_isWord_ok, Option.bind_some, allN]
    cases wordB (bt s i) with
    | true => rw [if_pos rfl, Bool.true_and]; exact ih k (i + 1) (by omega) (by omega) (by omega)
    | false => rw [if_neg (by decide), Bool.false_and]
theorem impl_nameOk_ok (s : ByteArray) (hs : s.size ≤ 9223372036854775807) (k : Nat) (hk : 70 ≤ k) : impl_nameOk.f k s = some (nameM s) := by
  obtain ⟨k, rfl⟩ : ∃ m, k = m + 1 := ⟨k - 1, by omega⟩
  have jt : impl_nameOk.j0 (k + 1) s true = some false := by simp only [impl_nameOk.j0, if_true]
  unfold impl_nameOk.f nameM
  by_cases h60 : (s.size : Int) > 60
  · rw [if_pos h60, jt, show decide (1 ≤ s.size ∧ s.size ≤ 60 ∧ bt s 0 = 33 ∧ bt s ((s.size : Int) - 1) = 33) = false by simp only [decide_eq_false_iff_not]; omega, Bool.false_and]
  · rw [if_neg h60]
    by_cases h0 : s.size = 0
    · rw [if_pos (tl_nil.mpr h0), jt, show decide (1 ≤ s.size ∧ s.size ≤ 60 ∧ bt s 0 = 33 ∧ bt s ((s.size : Int) - 1) = 33) = false by simp only [decide_eq_false_iff_not]; omega, Bool.false_and]
    · rw [if_neg (fun c => h0 (tl_nil.mp c)), if_pos (by omega), w64 (by omega) (by omega)]
      by_cases hb : bt s 0 = 33
      · rw [if_pos hb, if_pos (by omega), if_pos (by omega)]
        by_cases hl : bt s ((s.size : Int) - 1) = 33
        · rw [show (bt s ((s.size : Int) - 1) != 33) = false by simp [hl]]
          simp only [impl_nameOk.j0, Bool.false_eq_true, if_false]
          rw [show decide (1 ≤ s.size ∧ s.size ≤ 60 ∧ bt s 0 = 33 ∧ bt s ((s.size : Int) - 1) = 33) = true by simp only [decide_eq_true_eq]; omega, Bool.true_and]
          by_cases h1 : s.size = 1
          · obtain ⟨k, rfl⟩ : ∃ m, k = m + 1 := ⟨k - 1, by omega⟩
            rw [h1]
            rw [impl_nameOk.l0, w64 (by omega) (by omega), if_neg (by omega)]
            rfl
          · exact impl_nameOk_l0 s (by omega) (s.size - 2) k 1 (by omega) (by omega) (by omega)
        · rw [show (bt s ((s.size : Int) - 1) != 33) = true by simp [hl], jt, show decide (1 ≤ s.size ∧ s.size ≤ 60 ∧ bt s 0 = 33 ∧ bt s ((s.size : Int) - 1) = 33) = false by simp only [decide_eq_false_iff_not]; omega, Bool.false_and]
      · rw [if_neg hb, jt, show decide (1 ≤ s.size ∧ s.size ≤ 60 ∧ bt s 0 = 33 ∧ bt s ((s.size : Int) - 1) = 33) = false by simp only [decide_eq_false_iff_not]; omega, Bool.false_and]

theorem impl_isPrint_l0 (s : ByteArray) (hs : s.size ≤ 140737488351232) (d : Nat) : ∀ (k : Nat) (i : Int), 0 ≤ i → (s.size : Int) - i = d → d < k → impl_isPrint.l0 k s (s.size : Int) i = some (allN prB s d i) := by
  induction d with
  | zero =>
    intro k i h0 hd hk
    obtain ⟨k, rfl⟩ : ∃ m, k = m + 1 := ⟨k - 1, by omega⟩
    simp (disch := omega) only [impl_isPrint.l0, if_neg, allN]
  | succ d ih =>
    intro k i h0 hd hk
    obtain ⟨k, rfl⟩ : ∃ m, k = m + 1 := ⟨k - 1, by omega⟩
    simp (disch := omega) only [impl_isPrint.l0, w64, if_pos, allN]
    by_cases a : bt s i < 33
    · rw [if_pos a, prB_not.mpr (by omega), Bool.false_and]
    · rw [if_neg a]
      by_cases b : bt s i > 126
      · rw [if_pos b, prB_not.mpr (by omega), Bool.false_and]
      · rw [if_neg b, prB_iff.mpr (by omega), Bool.true_and]
        exact ih k (i + 1) (by omega) (by omega) (by omega)
theorem impl_isPrint_ok (s : ByteArray) (hs : s.size ≤ 140737488351232) (k : Nat) (hk : s.size < k) : impl_isPrint.f k s = some (allN prB s s.size 0) :=
  impl_isPrint_l0 s hs s.size k 0 (by omega) (by omega) hk

theorem impl_HandleOk_ok (n p : ByteArray) (hn : n.size ≤ 9223372036854775807) (hp : p.size ≤ 140737488351232) (k : Nat) (hk : p.size + 70 ≤ k) : impl_HandleOk.f k n p = some (handleM n p) := by
  simp (disch := omega) only [impl_HandleOk.f, impl_nameOk_ok, impl_within_ok, impl_isPrint_ok, Option.bind_some]
  unfold handleM
  cases nameM n with
  | false => simp
  | true =>
    rw [if_pos rfl, show decide ((1 : Int) ≤ (p.size : Int) ∧ (p.size : Int) ≤ 60) = decide (1 ≤ p.size ∧ p.size ≤ 60) by rw [decide_eq_decide]; omega]
    cases decide (1 ≤ p.size ∧ p.size ≤ 60) <;> simp

theorem FnExactHandleOk : ∀ (a0_0 : ByteArray) (a0_1 : ByteArray), a0_0.size ≤ 9223372036854775807 → a0_1.size ≤ 9223372036854775807 → ∃ k, laws_FnExactHandleOk.f k a0_0 a0_1 = some true := by
  intro n p hn hp
  have e1 : wrap64 ((1048576 : Int) - (n.size : Int)) = 1048576 - n.size := w64 (by omega) (by omega)
  by_cases h1 : (1048576 : Int) - n.size < 0
  · refine ⟨0, ?_⟩
    simp only [laws_FnExactHandleOk.f, laws_szHandle.f, e1, if_pos h1, Option.bind_some]
    rfl
  · have e2 : wrap64 ((1048576 : Int) - (n.size : Int) - (p.size : Int)) = 1048576 - n.size - p.size := w64 (by omega) (by omega)
    by_cases h2 : (1048576 : Int) - n.size - p.size < 0
    · refine ⟨0, ?_⟩
      simp only [laws_FnExactHandleOk.f, laws_szHandle.f, e1, e2, if_neg h1, if_pos h2, Option.bind_some]
      rfl
    · refine ⟨p.size + 100, ?_⟩
      simp only [laws_FnExactHandleOk.f, laws_szHandle.f, laws_toHandle.f, e1, e2, if_neg h1, if_neg h2, Option.bind_some, spec_HandleOk_ok n p hn (by omega) _ (by omega : p.size + 71 ≤ p.size + 100), impl_HandleOk_ok n p hn (by omega) _ (by omega : p.size + 70 ≤ p.size + 100), bne_self_eq_false, Bool.false_eq_true, if_false]

end Go.Proofs.Ytnkbmfbmcpdcpaa.Pure
