/- The statement FnExactEventOk, for every input. -/
import Derived.Test.YtacmlggiklkbiaaPFnExactEventOkx0
import Derived.Test.YtacmlggiklkbiaaPFnExactEventOkx1
import Derived.Test.YtacmlggiklkbiaaPFnExactEventOkx2
import Derived.Test.YtacmlggiklkbiaaPFnExactEventOkx3
import Derived.Test.YtacmlggiklkbiaaEvt
import Derived.Test.YtacmlggiklkbiaaLst
import Derived.Test.YtacmlggiklkbiaaMine
import Derived.Test.YtacmlggiklkbiaaTxt
namespace Go.Proofs.Ytacmlggiklkbiaa.Pure
open Go.RowKit Go.Proofs.Ytacmlggiklkbiaa.PFnExactEventOk Go.Proofs.YtacmlggiklkbiaaW.PrintWords Go.Proofs.YtacmlggiklkbiaaW.PrintLast Go.Proofs.YtacmlggiklkbiaaW.PrintMore Go.Proofs.Ytacmlggiklkbiaa.Mine

theorem spec_l03White_in (s : ByteArray) (p : Int) (h0 : 0 ≤ p) (h1 : p < s.size) : spec_l03White.f s p = some (whB (bt s p)) := by
  simp (disch := omega) only [spec_l03White.f, if_pos]
  by_cases h : bt s p = 32
  · rw [if_pos h, whB_iff.mpr (.inl h)]
  · rw [if_neg h]
    by_cases h9 : bt s p = 9
    · rw [h9]; rfl
    · rw [whB_not.mpr (by omega)]; simp [h9]
theorem spec_l03White_end (s : ByteArray) (p : Int) (h1 : (s.size : Int) ≤ p) : spec_l03White.f s p = some false := by
  simp (disch := omega) only [spec_l03White.f, if_neg]
theorem spec_l03White_ok (s : ByteArray) (p : Int) (h0 : 0 ≤ p) : spec_l03White.f s p = some (whB (byteM s p)) := by
  by_cases h : p < s.size
  · rw [spec_l03White_in s p h0 h, byteM_in h0 h]
  · rw [spec_l03White_end s p (by omega), byteM_end (by omega)]; rfl

theorem spec_l03Break_ok (s : ByteArray) (p : Int) (h0 : 0 ≤ p) : spec_l03Break.f s p = some (brB (byteM s p)) := by
  unfold spec_l03Break.f
  by_cases h : p < s.size
  · rw [if_neg (by omega), if_pos h0, if_pos h, byteM_in h0 h]
    have := bt_lo s p
    by_cases h10 : bt s p = 10
    · rw [h10]; rfl
    · rw [brB_not.mpr (by omega)]; simp [h10]
  · rw [if_pos (by omega), byteM_end (by omega)]; rfl

theorem spec_l03Gap_ok (s : ByteArray) (p : Int) (h0 : 0 ≤ p) : spec_l03Gap.f s p = some (gapB (byteM s p)) := by
  simp only [spec_l03Gap.f, spec_l03White_ok s p h0, spec_l03Break_ok s p h0, Option.bind_some, gapB_eq]
  cases whB (byteM s p) <;> rfl

theorem spec_l04Flow_ok (b : Int) : spec_l04Flow.f b = some (flB b) := by
  unfold spec_l04Flow.f flB
  by_cases h1 : b = 44
  · simp [h1]
  · by_cases h2 : b = 91
    · simp [h2]
    · by_cases h3 : b = 93
      · simp [h3]
      · by_cases h4 : b = 123
        · simp [h4]
        · by_cases h5 : b = 125
          · simp [h5]
          · simp [h1, h2, h3, h4, h5]

theorem spec_l09Name_l0 (s : ByteArray) (hs : s.size ≤ 140737488351232) (d : Nat) : ∀ (k : Nat) (i : Int), 0 ≤ i → (s.size : Int) - i = d → d < k → spec_l09Name.l0 k s i = some (decide (s.size ≤ 60) && allN noSt s d i) := by
  induction d with
  | zero =>
    intro k i h0 hd hk
    obtain ⟨k, rfl⟩ : ∃ m, k = m + 1 := ⟨k - 1, by omega⟩
    rw [spec_l09Name.l0, if_neg (by omega)]
    simp only [allN, Bool.and_true]
    congr 1; rw [decide_eq_decide]; omega
  | succ d ih =>
    intro k i h0 hd hk
    obtain ⟨k, rfl⟩ : ∃ m, k = m + 1 := ⟨k - 1, by omega⟩
    rw [spec_l09Name.l0, if_pos (by omega), spec_l03Gap_ok s i h0, Option.bind_some, byteM_in h0 (by omega)]
    simp only [allN]
    cases hg : gapB (bt s i) with
    | true => rw [if_pos rfl, show noSt (bt s i) = false by simp [noSt, stB_gap hg], Bool.false_and, Bool.and_false]
    | false =>
      rw [if_neg (by decide), if_pos h0, spec_l04Flow_ok, Option.bind_some]
      cases hf : flB (bt s i) with
      | true => rw [if_pos rfl, show noSt (bt s i) = false by simp [noSt, stB_fl hf], Bool.false_and, Bool.and_false]
      | false =>
        rw [if_neg (by decide), show noSt (bt s i) = true by simp [noSt, stB_no hg hf], Bool.true_and, w64 (by omega) (by omega)]
        exact ih k (i + 1) (by omega) (by omega) (by omega)
theorem spec_l09Name_ok (s : ByteArray) (hs : s.size ≤ 140737488351232) (k : Nat) (hk : s.size < k) : spec_l09Name.f k s = some (nameB s) :=
  spec_l09Name_l0 s hs s.size k 0 (by omega) (by omega) hk

theorem evM_of {kind style : Int} {flag : Bool} {text anchor tag : ByteArray} {at_ code : Int} {b : Bool} (h : b = true ↔ EvP kind style flag text anchor tag at_ code) : (some b : Option Bool) = some (evM kind style flag text anchor tag at_ code) := by
  unfold evM
  congr 1
  rw [Bool.eq_iff_iff, h, decide_eq_true_eq]
theorem spec_EventOk_j4f (kind style : Int) (flag : Bool) (text anchor tag : ByteArray) (at_ code : Int) (ht : text.size ≤ 140737488351232) (ha1 : anchor.size ≤ 140737488351232) (k : Nat) (hk : text.size + anchor.size + 2 ≤ k) :
    spec_EventOk.j4 k false kind style flag text anchor tag at_ code = some (if kind = 10 then decide (1 ≤ code ∧ code ≤ 99 ∧ 0 ≤ at_) else if kind = 6 ∧ (text.size = 0 ∨ nameB text = false) then false else nameB anchor && decide (tag.size ≤ 120 ∧ code = 0 ∧ at_ = 0)) := by
  obtain ⟨k, rfl⟩ : ∃ m, k = m + 1 := ⟨k - 1, by omega⟩
  rw [spec_EventOk.j4, if_neg (by decide), spec_l09Name_ok anchor ha1 k (by omega), spec_l09Name_ok text ht k (by omega)]
  have hn : (text.toList = ([] : List UInt8)) = (text.size = 0) := propext tl_nil
  have hg : ((tag.size : Int) > 120) = ¬ (tag.size ≤ 120) := propext (by omega)
  have hz : (at_ == 0) = decide (at_ = 0) := by rw [Bool.eq_iff_iff, beq_iff_eq, decide_eq_true_eq]
  simp only [Option.bind_some, hn, hg, hz]
  by_cases c10 : kind = 10
  · rw [if_pos c10, if_pos c10]
    by_cases a : code ≥ 1 <;> by_cases b : code ≤ 99 <;> simp [a, b] <;> omega
  · rw [if_neg c10, if_neg c10]
    by_cases c6 : kind = 6 <;> by_cases d1 : text.size = 0 <;> cases nameB text <;> cases nameB anchor <;> by_cases d2 : tag.size ≤ 120 <;> by_cases d3 : code = 0 <;> simp [c6, d1, d2, d3]
theorem spec_EventOk_j3f (kind style : Int) (flag node : Bool) (text anchor tag : ByteArray) (at_ code : Int) (ht : text.size ≤ 140737488351232) (ha1 : anchor.size ≤ 140737488351232) (k : Nat) (hk : text.size + anchor.size + 3 ≤ k) :
    spec_EventOk.j3 k node false kind style flag text anchor tag at_ code =
    some (if (flag = true ∧ ¬ kind = 2 ∧ ¬ kind = 8) ∨ (¬ text.size = 0 ∧ ¬ kind = 5 ∧ ¬ kind = 6) ∨ ((¬ anchor.size = 0 ∨ ¬ tag.size = 0) ∧ node = false) then false else if kind = 10 then decide (1 ≤ code ∧ code ≤ 99 ∧ 0 ≤ at_) else if kind = 6 ∧ (text.size = 0 ∨ nameB text = false) then false else nameB anchor && decide (tag.size ≤ 120 ∧ code = 0 ∧ at_ = 0)) := by
  obtain ⟨k, rfl⟩ : ∃ m, k = m + 2 := ⟨k - 2, by omega⟩
  have f := spec_EventOk_j4f kind style flag text anchor tag at_ code ht ha1 (k + 1) (by omega)
  have t : spec_EventOk.j4 (k + 1) true kind style flag text anchor tag at_ code = some false := by rw [spec_EventOk.j4, if_pos rfl]
  have hn : (text.toList = ([] : List UInt8)) = (text.size = 0) := propext tl_nil
  have hna : (anchor.toList = ([] : List UInt8)) = (anchor.size = 0) := propext tl_nil
  have hng : (tag.toList = ([] : List UInt8)) = (tag.size = 0) := propext tl_nil
  have n : spec_EventOk.j4 (k + 1) (!node) kind style flag text anchor tag at_ code = if node = true then spec_EventOk.j4 (k + 1) false kind style flag text anchor tag at_ code else some false := by cases node <;> simp [t]
  rw [spec_EventOk.j3, if_neg (by decide)]
  simp only [n, t, hn, hna, hng, f]
  generalize (if kind = 10 then decide (1 ≤ code ∧ code ≤ 99 ∧ 0 ≤ at_) else if kind = 6 ∧ (text.size = 0 ∨ nameB text = false) then false else nameB anchor && decide (tag.size ≤ 120 ∧ code = 0 ∧ at_ = 0)) = v
  clear n t f hn hna hng hk ht ha1
  generalize text.size = ts
  generalize anchor.size = az
  generalize tag.size = gs
  cases flag <;> cases node <;> by_cases a : ts = 0 <;> by_cases b : az = 0 <;> by_cases c : gs = 0 <;> simp only [a, b, c, if_true, if_false, Bool.false_eq_true, not_true_eq_false, not_false_eq_true, true_and, false_and, and_true, and_false, or_true, or_false, true_or, false_or, reduceCtorEq] <;> (repeat' split) <;> first | rfl | (exfalso; omega) | grind
theorem spec_EventOk_ok (kind style : Int) (flag : Bool) (text anchor tag : ByteArray) (at_ code : Int) (ht : text.size ≤ 140737488351232) (ha1 : anchor.size ≤ 140737488351232) (k : Nat) (hk : text.size + anchor.size + 80 ≤ k) :
    spec_EventOk.f k kind style flag text anchor tag at_ code = some (evM kind style flag text anchor tag at_ code) := by
  obtain ⟨k, rfl⟩ : ∃ m, k = m + 5 := ⟨k - 5, by omega⟩
  have f := fun node => spec_EventOk_j3f kind style flag node text anchor tag at_ code ht ha1 (k + 2) (by omega)
  have t : ∀ node, spec_EventOk.j3 (k + 2) node true kind style flag text anchor tag at_ code = some false := fun node => by rw [spec_EventOk.j3, if_pos rfl]
  have ha : anchor.size = 0 → nameB anchor = true := nameB_none
  have hz : (kind == 5) = decide (kind = 5) := by rw [Bool.eq_iff_iff, beq_iff_eq, decide_eq_true_eq]
  have e : spec_EventOk.f (k + 5) kind style flag text anchor tag at_ code = spec_EventOk.j0 (k + 5) (decide (kind = 3 ∨ kind = 4 ∨ kind = 5)) kind style flag text anchor tag at_ code := by
    unfold spec_EventOk.f
    rw [hz]
    by_cases c3 : kind = 3
    · simp [c3]
    · by_cases c4 : kind = 4
      · simp [c4]
      · simp [c3, c4]
  have d : ∀ lo hi : Int, spec_EventOk.j2 (k + 3) (decide (kind = 3 ∨ kind = 4 ∨ kind = 5)) lo hi kind style flag text anchor tag at_ code = if 1 ≤ kind ∧ kind ≤ 10 ∧ lo ≤ style ∧ style ≤ hi then spec_EventOk.j3 (k + 2) (decide (kind = 3 ∨ kind = 4 ∨ kind = 5)) false kind style flag text anchor tag at_ code else some false := fun lo hi => by
    rw [spec_EventOk.j2, t]
    by_cases a1 : kind < 1
    · rw [if_pos a1, if_neg (by omega)]
    · by_cases a2 : kind > 10
      · rw [if_neg a1, if_pos a2, if_neg (by omega)]
      · by_cases a3 : style < lo
        · rw [if_neg a1, if_neg a2, if_pos a3, if_neg (by omega)]
        · rw [if_neg a1, if_neg a2, if_neg a3]
          by_cases a4 : style > hi
          · rw [show decide (style > hi) = true by simpa using a4, t, if_neg (by omega)]
          · rw [show decide (style > hi) = false by simpa using a4, if_pos (by omega)]
  rw [e]
  have g : spec_EventOk.j0 (k + 5) (decide (kind = 3 ∨ kind = 4 ∨ kind = 5)) kind style flag text anchor tag at_ code = if 1 ≤ kind ∧ kind ≤ 10 ∧ (if kind = 5 then 1 else if kind = 3 ∨ kind = 4 then 6 else 0) ≤ style ∧ style ≤ (if kind = 5 then 5 else if kind = 3 ∨ kind = 4 then 7 else 0) then spec_EventOk.j3 (k + 2) (decide (kind = 3 ∨ kind = 4 ∨ kind = 5)) false kind style flag text anchor tag at_ code else some false := by
    rw [spec_EventOk.j0]
    by_cases c5 : kind = 5
    · rw [if_pos (show decide (kind = 3 ∨ kind = 4 ∨ kind = 5) = true by simp [c5]), spec_EventOk.j1, if_pos c5, d, if_pos c5, if_pos c5]
    · by_cases c34 : kind = 3 ∨ kind = 4
      · rw [if_pos (show decide (kind = 3 ∨ kind = 4 ∨ kind = 5) = true by simp; omega), spec_EventOk.j1, if_neg c5, d, if_neg c5, if_neg c5, if_pos c34, if_pos c34]
      · rw [if_neg (show ¬ decide (kind = 3 ∨ kind = 4 ∨ kind = 5) = true by simp; omega), spec_EventOk.j1, if_neg c5, d, if_neg c5, if_neg c5, if_neg c34, if_neg c34]
  rw [g, f]
  clear f t d e g hz hk ht ha1
  unfold evM
  rw [← apply_ite some]
  congr 1
  rw [Bool.eq_iff_iff, decide_eq_true_eq]
  unfold EvP
  generalize nameB anchor = na at ha ⊢
  generalize nameB text = nt
  generalize text.size = ts
  generalize anchor.size = az at ha ⊢
  generalize tag.size = gs
  by_cases c5 : kind = 5
  · subst c5; simp; grind
  · by_cases c34 : kind = 3 ∨ kind = 4
    · rcases c34 with rfl | rfl
      · simp; grind
      · simp; grind
    · by_cases c6 : kind = 6
      · subst c6; simp; grind
      · by_cases c10 : kind = 10
        · subst c10; simp; grind
        · simp only [c5, c34, c6, c10, if_false]
          grind

theorem impl_within_ok (a b c : Int) : impl_within.f a b c = some (decide (b ≤ a ∧ a ≤ c)) := by
  unfold impl_within.f
  by_cases h : a ≥ b
  · rw [if_pos h]; simp only [Option.some.injEq, decide_eq_decide]; omega
  · rw [if_neg h]; simp only [Option.some.injEq]; symm; simp only [decide_eq_false_iff_not]; omega

theorem impl_isWhite_ok (b : Int) : impl_isWhite.f b = some (whB b) := by
  unfold impl_isWhite.f
  by_cases h : b = 32
  · rw [if_pos h, whB_iff.mpr (.inl h)]
  · rw [if_neg h]
    by_cases h9 : b = 9
    · rw [h9]; rfl
    · rw [whB_not.mpr (by omega)]; simp [h9]

theorem impl_isBreak_ok (b : Int) : impl_isBreak.f b = some (brB b) := by
  unfold impl_isBreak.f brB
  by_cases h : b = 10
  · simp [h]
  · rw [if_neg h]; simp [h]

theorem impl_isFlow_ok (b : Int) : impl_isFlow.f b = some (flB b) := by
  unfold impl_isFlow.f flB
  by_cases h1 : b = 44
  · simp [h1]
  · by_cases h2 : b = 91
    · simp [h2]
    · by_cases h3 : b = 93
      · simp [h3]
      · by_cases h4 : b = 123
        · simp [h4]
        · by_cases h5 : b = 125
          · simp [h5]
          · simp [h1, h2, h3, h4, h5]

theorem impl_isName_l0 (s : ByteArray) (hs : s.size ≤ 60) (d : Nat) : ∀ (k : Nat) (i : Int), 0 ≤ i → (s.size : Int) - i = d → d < k → impl_isName.l0 k s (s.size : Int) i = some (allN noSt s d i) := by
  induction d with
  | zero =>
    intro k i h0 hd hk
    obtain ⟨k, rfl⟩ : ∃ m, k = m + 1 := ⟨k - 1, by omega⟩
    rw [impl_isName.l0, if_neg (by omega)]
    rfl
  | succ d ih =>
    intro k i h0 hd hk
    obtain ⟨k, rfl⟩ : ∃ m, k = m + 1 := ⟨k - 1, by omega⟩
    have h1 := bt_lo s i
    have h2 := bt_hi s i
    rw [impl_isName.l0, if_pos (by omega), if_pos h0, if_pos (by omega), w64 (n := bt s i) (by omega) (by omega), w64 (n := i + 1) (by omega) (by omega), ih k (i + 1) (by omega) (by omega) (by omega), impl_isWhite_ok, impl_isBreak_ok, impl_isFlow_ok]
    simp only [Option.bind_some, allN]
    have e : noSt (bt s i) = !(whB (bt s i) || brB (bt s i) || flB (bt s i)) := by simp only [noSt, stB, gapB_eq]
    rw [e]
    cases whB (bt s i) <;> cases brB (bt s i) <;> cases flB (bt s i) <;> simp
theorem impl_isName_ok (s : ByteArray) (k : Nat) (hk : 70 ≤ k) : impl_isName.f k s = some (nameB s) := by
  unfold impl_isName.f nameB
  by_cases h : (s.size : Int) > 60
  · rw [if_pos h, show decide (s.size ≤ 60) = false by simp; omega, Bool.false_and]
  · rw [if_neg h, show decide (s.size ≤ 60) = true by simp; omega, Bool.true_and]
    exact impl_isName_l0 s (by omega) s.size k 0 (by omega) (by omega) (by omega)

theorem impl_EventOk_pre (k : Nat) (hk : 80 ≤ k) (kind style : Int) (text : ByteArray) (at_ code : Int) : impl_EventOk.pre k kind style text at_ code =
    some (decide (kind = 1 ∨ kind = 7 ∨ kind = 9 ∨ kind = 2 ∨ kind = 8 ∨ ((kind = 3 ∨ kind = 4) ∧ 6 ≤ style ∧ style ≤ 7) ∨ (kind = 5 ∧ 1 ≤ style ∧ style ≤ 5) ∨ (kind = 6 ∧ ¬ text.size = 0 ∧ nameB text = true) ∨ (kind = 10 ∧ 1 ≤ code ∧ code ≤ 99 ∧ 0 ≤ at_))) := by
  have t0 := impl_isName_ok text k (by omega)
  have he : text.toList.isEmpty = decide (text.size = 0) := by
    rw [Bool.eq_iff_iff, List.isEmpty_iff, decide_eq_true_eq]
    exact tl_nil
  unfold impl_EventOk.pre
  simp only [t0, impl_within_ok, Option.bind_some, he]
  generalize nameB text = nt
  generalize text.size = ts
  by_cases h1 : kind = 1 ∨ kind = 7 ∨ kind = 9 ∨ kind = 2 ∨ kind = 8
  · rw [if_pos h1]
    congr 1
    symm
    rw [decide_eq_true_eq]
    omega
  · rw [if_neg h1]
    by_cases h3 : kind = 3 ∨ kind = 4
    · rw [if_pos h3]
      congr 1
      rw [Bool.eq_iff_iff, decide_eq_true_eq]
      simp
      omega
    · rw [if_neg h3]
      by_cases h5 : kind = 5
      · rw [if_pos h5]
        congr 1
        rw [Bool.eq_iff_iff, decide_eq_true_eq]
        simp
        omega
      · rw [if_neg h5]
        by_cases h6 : kind = 6
        · rw [if_pos h6]
          subst h6
          by_cases hz : ts = 0
          · rw [if_pos (by simpa using hz)]
            congr 1
            symm
            rw [decide_eq_false_iff_not]
            omega
          · rw [if_neg (by simpa using hz)]
            congr 1
            cases nt <;> simp [hz]
        · rw [if_neg h6]
          by_cases h10 : kind = 10
          · rw [if_pos h10]
            subst h10
            by_cases hc : 1 ≤ code ∧ code ≤ 99
            · by_cases ha : at_ < 0
              · simp [hc, ha]
              · simp [hc, ha]; omega
            · simp [hc]
              intro q
              omega
          · rw [if_neg h10]
            congr 1
            symm
            rw [decide_eq_false_iff_not]
            omega
theorem impl_EventOk_ok (kind style : Int) (flag : Bool) (text anchor tag : ByteArray) (at_ code : Int) (k : Nat) (hk : 80 ≤ k) :
    impl_EventOk.f k kind style flag text anchor tag at_ code = some (evM kind style flag text anchor tag at_ code) := by
  have n1 := impl_isName_ok anchor k (by omega)
  have ha : anchor.size = 0 → nameB anchor = true := nameB_none
  have hs : ∀ s t : ByteArray, ∀ p : Prop, [Decidable p] → (s.toList == (if p then s else (⟨#[]⟩ : ByteArray)).toList) = decide (p ∨ s.size = 0) := by
    intro s t p _
    by_cases hp : p
    · rw [if_pos hp]; simp [hp]
    · rw [if_neg hp, eq_none]; simp [hp]
  unfold impl_EventOk.f
  rw [impl_EventOk_pre k hk, Option.bind_some, n1]
  simp only [Option.bind_some]
  have hq : impl_EventOk.eqE kind style flag text anchor tag at_ code = decide (((kind = 3 ∨ kind = 4 ∨ kind = 5) ∨ style = 0) ∧ ((kind = 2 ∨ kind = 8) ∨ flag = false) ∧ ((kind = 5 ∨ kind = 6) ∨ text.size = 0) ∧ ((kind = 3 ∨ kind = 4 ∨ kind = 5) ∨ anchor.size = 0) ∧ ((kind = 3 ∨ kind = 4 ∨ kind = 5) ∨ tag.size = 0) ∧ (kind = 10 ∨ at_ = 0) ∧ (kind = 10 ∨ code = 0)) := by
    unfold impl_EventOk.eqE impl_EventOk.eqB impl_EventOk.os impl_EventOk.ofl impl_EventOk.ot impl_EventOk.oa impl_EventOk.oc
    have hi : ∀ (a : Int) (p : Prop), [Decidable p] → (a == (if p then a else 0)) = decide (p ∨ a = 0) := by
      intro a p _
      by_cases hp : p
      · simp [hp]
      · by_cases hz : a = 0 <;> simp [hp, hz]
    have hf : ∀ (a : Bool) (p : Prop), [Decidable p] → (a == (if p then a else false)) = decide (p ∨ a = false) := by
      intro a p _
      by_cases hp : p <;> cases a <;> simp [hp]
    rw [hi, hi, hi, hf, hs text text, hs anchor text, hs tag text, beq_self_eq_true, Bool.true_and]
    simp only [Bool.decide_and]
  rw [hq]
  unfold evM
  rw [show ∀ (b c : Bool) (x y : Option Bool), (if b = true then (if c = true then x else y) else y) = if (b && c) = true then x else y from fun b c x y => by cases b <;> cases c <;> rfl]
  have hx : (if nameB anchor = true then (some (decide ((tag.size : Int) ≤ 120))) else (some false)) = some (nameB anchor && decide (tag.size ≤ 120)) := by
    cases nameB anchor
    · rfl
    · rw [if_pos rfl, Bool.true_and]
      congr 1
      rw [decide_eq_decide]
      omega
  rw [hx, ← apply_ite some]
  congr 1
  rw [Bool.eq_iff_iff, decide_eq_true_eq]
  unfold EvP
  generalize nameB anchor = na at ha ⊢
  generalize nameB text = nt
  generalize text.size = ts
  generalize anchor.size = az at ha ⊢
  generalize tag.size = gs
  clear hs n1 hq hx
  rw [← Bool.decide_and]
  by_cases hA : (kind = 1 ∨ kind = 7 ∨ kind = 9 ∨ kind = 2 ∨ kind = 8 ∨ ((kind = 3 ∨ kind = 4) ∧ 6 ≤ style ∧ style ≤ 7) ∨ (kind = 5 ∧ 1 ≤ style ∧ style ≤ 5) ∨ (kind = 6 ∧ ¬ ts = 0 ∧ nt = true) ∨ (kind = 10 ∧ 1 ≤ code ∧ code ≤ 99 ∧ 0 ≤ at_)) ∧ (((kind = 3 ∨ kind = 4 ∨ kind = 5) ∨ style = 0) ∧ ((kind = 2 ∨ kind = 8) ∨ flag = false) ∧ ((kind = 5 ∨ kind = 6) ∨ ts = 0) ∧ ((kind = 3 ∨ kind = 4 ∨ kind = 5) ∨ az = 0) ∧ ((kind = 3 ∨ kind = 4 ∨ kind = 5) ∨ gs = 0) ∧ (kind = 10 ∨ at_ = 0) ∧ (kind = 10 ∨ code = 0))
  · rw [if_pos (decide_eq_true hA), Bool.and_eq_true, decide_eq_true_eq]
    obtain ⟨hk, hs1, hf1, ht1, ha1, hg1, hat, hc⟩ := hA
    rcases hk with rfl | rfl | rfl | rfl | rfl | ⟨rfl | rfl, q1, q2⟩ | ⟨rfl, q1, q2⟩ | ⟨rfl, q1, q2⟩ | ⟨rfl, q1, q2, q3⟩ <;> simp_all <;> grind
  · rw [if_neg (by simpa only [decide_eq_true_eq] using hA)]
    constructor
    · intro h; cases h
    · intro h
      exfalso
      apply hA
      grind

theorem laws_szEvent_ok (kind style : Int) (flag : Bool) (text anchor tag : ByteArray) (at_ code : Int) (ht : text.size ≤ 9223372036854775807) (ha : anchor.size ≤ 9223372036854775807) (hg : tag.size ≤ 9223372036854775807) (x : Int) (hx : 0 ≤ x) (hx1 : x ≤ 1048576) :
    ∃ r, laws_szEvent.f kind style flag text anchor tag at_ code x = some r ∧ (r < 0 ∨ (r = x - text.size - anchor.size - tag.size ∧ 0 ≤ r)) := by
  unfold laws_szEvent.f
  rw [w64 (n := x - (text.size : Int)) (by omega) (by omega)]
  by_cases h1 : x - (text.size : Int) < 0
  · rw [if_pos h1]; exact ⟨-1, rfl, .inl (by omega)⟩
  · rw [if_neg h1, w64 (n := x - (text.size : Int) - (anchor.size : Int)) (by omega) (by omega)]
    by_cases h2 : x - (text.size : Int) - (anchor.size : Int) < 0
    · rw [if_pos h2]; exact ⟨-1, rfl, .inl (by omega)⟩
    · rw [if_neg h2, w64 (n := x - (text.size : Int) - (anchor.size : Int) - (tag.size : Int)) (by omega) (by omega)]
      by_cases h3 : x - (text.size : Int) - (anchor.size : Int) - (tag.size : Int) < 0
      · rw [if_pos h3]; exact ⟨-1, rfl, .inl (by omega)⟩
      · rw [if_neg h3]; exact ⟨_, rfl, .inr ⟨rfl, by omega⟩⟩
theorem FnExactEventOk : ∀ (a0_0 : Int) (a0_1 : Int) (a0_2 : Bool) (a0_3 : ByteArray) (a0_4 : ByteArray) (a0_5 : ByteArray) (a0_6 : Int) (a0_7 : Int), (Lit.int .i64 a0_0).wf = true → (Lit.int .i64 a0_1).wf = true → a0_3.size ≤ 9223372036854775807 → a0_4.size ≤ 9223372036854775807 → a0_5.size ≤ 9223372036854775807 → (Lit.int .i64 a0_6).wf = true → (Lit.int .i64 a0_7).wf = true → ∃ k, laws_FnExactEventOk.f k a0_0 a0_1 a0_2 a0_3 a0_4 a0_5 a0_6 a0_7 = some true := by
  intro kind style flag text anchor tag at_ code _ _ ht ha hg _ _
  obtain ⟨r, hr, hs⟩ := laws_szEvent_ok kind style flag text anchor tag at_ code ht ha hg 1048576 (by omega) (by omega)
  obtain ⟨k, hk⟩ : ∃ k : Nat, text.size + anchor.size + 100 ≤ k := ⟨_, Nat.le_refl _⟩
  refine ⟨k, ?_⟩
  simp only [laws_FnExactEventOk.f, hr, Option.bind_some]
  by_cases hn : r < 0
  · rw [if_pos hn]
  · have hs' := hs.resolve_left hn
    rw [if_neg hn]
    simp only [laws_toEvent.f, Option.bind_some, spec_EventOk_ok kind style flag text anchor tag at_ code (by omega) (by omega) k (by omega), impl_EventOk_ok kind style flag text anchor tag at_ code k (by omega), bne_self_eq_false, Bool.false_eq_true, if_false]

end Go.Proofs.Ytacmlggiklkbiaa.Pure
