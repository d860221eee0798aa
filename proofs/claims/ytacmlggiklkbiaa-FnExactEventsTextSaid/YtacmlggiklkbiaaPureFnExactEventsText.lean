/- The statement FnExactEventsText, for every input. -/
import Derived.Test.YtacmlggiklkbiaaPFnExactEventsTextx0
import Derived.Test.YtacmlggiklkbiaaPFnExactEventsTextx1
import Derived.Test.YtacmlggiklkbiaaPFnExactEventsTextx2
import Derived.Test.YtacmlggiklkbiaaPFnExactEventsTextx3
import Derived.Test.YtacmlggiklkbiaaPFnExactEventsTextx4
import Derived.Test.YtacmlggiklkbiaaPFnExactEventsTextx5
import Derived.Test.YtacmlggiklkbiaaPFnExactEventsTextx6
import Derived.Test.YtacmlggiklkbiaaPFnExactEventsTextx7
import Derived.Test.YtacmlggiklkbiaaPFnExactEventsTextx8
import Derived.Test.YtacmlggiklkbiaaEvt
import Derived.Test.YtacmlggiklkbiaaLst
import Derived.Test.YtacmlggiklkbiaaMine
import Derived.Test.YtacmlggiklkbiaaTxt
namespace Go.Proofs.Ytacmlggiklkbiaa.Pure
open Go.RowKit Go.Proofs.Ytacmlggiklkbiaa.PFnExactEventsText Go.Proofs.YtacmlggiklkbiaaW.PrintWords Go.Proofs.YtacmlggiklkbiaaW.PrintLast Go.Proofs.YtacmlggiklkbiaaW.PrintMore Go.Proofs.Ytacmlggiklkbiaa.Mine

theorem laws_szEvent_ok (kind style : Int) (flag : Bool) (text anchor tag : ByteArray) (at_ code : Int) (ht : text.size ≤ 9223372036854775807) (ha : anchor.size ≤ 9223372036854775807) (hg : tag.size ≤ 9223372036854775807) (x : Int) (hx : 0 ≤ x) (hx1 : x ≤ 1048576) :
    ∃ r, laws_szEvent.f kind style flag text anchor tag at_ code x = some r ∧ (r < 0 ∨ (r = x - text.size - anchor.size - tag.size ∧ 0 ≤ r)) := by
  unfold laws_szEvent.f
  rw [w64 (n := x - (text.size : Int)) (by omega) (by omega)]
  by_cases h1 : x - (text.size : Int) < 0
  · rw [if_pos h1]; exact ⟨-1, rfl, .inl (by omega)⟩
  · rw [if_neg h1, w64 (n := x - (text.size : Int) - (anchor.size : Int)) (by omega) (by omega)]
    by_cases h2 : x - (text.size : Int) - (anchor.size : Int) < 0
    · rw [if_pos h2]; exact ⟨-1, rfl, .inl (by omega)⟩
    · rw [if_neg h2, w64 (n := x - (text.size : Int) - (anchor.size : Int) - (tag.size : Int)) (by omega) (by omega)]
      by_cases h3 : x - (text.size : Int) - (anchor.size : Int) - (tag.size : Int) < 0
      · rw [if_pos h3]; exact ⟨-1, rfl, .inl (by omega)⟩
      · rw [if_neg h3]; exact ⟨_, rfl, .inr ⟨rfl, by omega⟩⟩
def totE : List S26 → Nat
  | [] => 0
  | x :: r => x.f3.size + x.f4.size + x.f5.size + totE r
theorem laws_szEventS_l0 (l : List S26) (hl : l.length ≤ 9223372036854775807) (hb : ∀ a ∈ l, a.f3.size ≤ 9223372036854775807 ∧ a.f4.size ≤ 9223372036854775807 ∧ a.f5.size ≤ 9223372036854775807) (d : Nat) : ∀ (k : Nat) (x i : Int), 0 ≤ i → (l.length : Int) - i = d → 0 ≤ x → x ≤ 1048576 → d < k →
    ∃ r, laws_szEventS.l0 k l x i = some r ∧ (r < 0 ∨ (totE (l.drop i.toNat) : Int) ≤ x) := by
  induction d with
  | zero =>
    intro k x i h0 hd hx hx1 hk
    obtain ⟨k, rfl⟩ : ∃ m, k = m + 1 := ⟨k - 1, by omega⟩
    refine ⟨x, by rw [laws_szEventS.l0, if_neg (by omega)], .inr ?_⟩
    rw [drop_end _ _ (by omega)]
    exact hx
  | succ d ih =>
    intro k x i h0 hd hx hx1 hk
    obtain ⟨k, rfl⟩ : ∃ m, k = m + 1 := ⟨k - 1, by omega⟩
    have hi : i < (l.length : Int) := by omega
    obtain ⟨b1, b2, b3⟩ := hb _ (List.mem_of_getElem? (getD_some z26 l i h0 hi))
    rw [laws_szEventS.l0, if_pos hi, if_pos h0, w64 (n := i + 1) (by omega) (by omega)]
    obtain ⟨r1, e1, hr1⟩ := laws_szEvent_ok (rd_T26 l i).f0 (rd_T26 l i).f1 (rd_T26 l i).f2 (rd_T26 l i).f3 (rd_T26 l i).f4 (rd_T26 l i).f5 (rd_T26 l i).f6 (rd_T26 l i).f7 b1 b2 b3 x hx hx1
    rw [e1, Option.bind_some]
    by_cases hn : r1 < 0
    · rw [if_pos hn]
      exact ⟨-1, rfl, .inl (by omega)⟩
    · rw [if_neg hn]
      obtain ⟨q1, q2⟩ := hr1.resolve_left hn
      obtain ⟨r, hr, hs⟩ := ih k r1 (i + 1) (by omega) (by omega) (by omega) (by omega) (by omega)
      refine ⟨r, hr, hs.imp id fun h => ?_⟩
      rw [drop_at z26 l i h0 hi]
      show (((rd_T26 l i).f3.size + (rd_T26 l i).f4.size + (rd_T26 l i).f5.size + totE (l.drop (i + 1).toNat) : Nat) : Int) ≤ x
      omega
theorem laws_szEventS_ok (l : List S26) (hl : l.length ≤ 9223372036854775807) (hb : ∀ a ∈ l, a.f3.size ≤ 9223372036854775807 ∧ a.f4.size ≤ 9223372036854775807 ∧ a.f5.size ≤ 9223372036854775807) (k : Nat) (hk : l.length < k) :
    ∃ r, laws_szEventS.f k l 1048576 = some r ∧ (r < 0 ∨ l.length + totE l ≤ 1048576) := by
  unfold laws_szEventS.f
  rw [w64 (by omega) (by omega)]
  by_cases hn : (1048576 : Int) - (l.length : Int) < 0
  · rw [if_pos hn]
    exact ⟨-1, rfl, .inl (by omega)⟩
  · rw [if_neg hn]
    obtain ⟨r, hr, hs⟩ := laws_szEventS_l0 l hl hb l.length k (1048576 - (l.length : Int)) 0 (by omega) (by omega) (by omega) (by omega) hk
    refine ⟨r, hr, hs.imp id fun h => ?_⟩
    rw [show (0 : Int).toNat = 0 from rfl, List.drop_zero] at h
    omega

theorem spec_l03White_in (s : ByteArray) (p : Int) (h0 : 0 ≤ p) (h1 : p < s.size) : spec_l03White.f s p = some (whB (bt s p)) := by
  simp (disch := omega) only [spec_l03White.f, if_pos]
  by_cases h : bt s p = 32
  · rw [if_pos h, whB_iff.mpr (.inl h)]
  · rw [if_neg h]
    by_cases h9 : bt s p = 9
    · rw [h9]; rfl
    · rw [whB_not.mpr (by omega)]; simp [h9]
theorem spec_l03White_end (s : ByteArray) (p : Int) (h1 : (s.size : Int) ≤ p) : spec_l03White.f s p = some false := by
  simp (disch := omega) only [spec_l03White.f, if_neg]
theorem spec_l03White_ok (s : ByteArray) (p : Int) (h0 : 0 ≤ p) : spec_l03White.f s p = some (whB (byteM s p)) := by
  by_cases h : p < s.size
  · rw [spec_l03White_in s p h0 h, byteM_in h0 h]
  · rw [spec_l03White_end s p (by omega), byteM_end (by omega)]; rfl

theorem spec_l03Break_ok (s : ByteArray) (p : Int) (h0 : 0 ≤ p) : spec_l03Break.f s p = some (brB (byteM s p)) := by
  unfold spec_l03Break.f
  by_cases h : p < s.size
  · rw [if_neg (by omega), if_pos h0, if_pos h, byteM_in h0 h]
    have := bt_lo s p
    by_cases h10 : bt s p = 10
    · rw [h10]; rfl
    · rw [brB_not.mpr (by omega)]; simp [h10]
  · rw [if_pos (by omega), byteM_end (by omega)]; rfl

theorem spec_l03Gap_ok (s : ByteArray) (p : Int) (h0 : 0 ≤ p) : spec_l03Gap.f s p = some (gapB (byteM s p)) := by
  simp only [spec_l03Gap.f, spec_l03White_ok s p h0, spec_l03Break_ok s p h0, Option.bind_some, gapB_eq]
  cases whB (byteM s p) <;> rfl

theorem spec_l04Flow_ok (b : Int) : spec_l04Flow.f b = some (flB b) := by
  unfold spec_l04Flow.f flB
  by_cases h1 : b = 44
  · simp [h1]
  · by_cases h2 : b = 91
    · simp [h2]
    · by_cases h3 : b = 93
      · simp [h3]
      · by_cases h4 : b = 123
        · simp [h4]
        · by_cases h5 : b = 125
          · simp [h5]
          · simp [h1, h2, h3, h4, h5]

theorem spec_l09Name_l0 (s : ByteArray) (hs : s.size ≤ 140737488351232) (d : Nat) : ∀ (k : Nat) (i : Int), 0 ≤ i → (s.size : Int) - i = d → d < k → spec_l09Name.l0 k s i = some (decide (s.size ≤ 60) && allN noSt s d i) := by
  induction d with
  | zero =>
    intro k i h0 hd hk
    obtain ⟨k, rfl⟩ : ∃ m, k = m + 1 := ⟨k - 1, by omega⟩
    rw [spec_l09Name.l0, if_neg (by omega)]
    simp only [allN, Bool.and_true]
    congr 1; rw [decide_eq_decide]; omega
  | succ d ih =>
    intro k i h0 hd hk
    obtain ⟨k, rfl⟩ : ∃ m, k = m + 1 := ⟨k - 1, by omega⟩
    rw [spec_l09Name.l0, if_pos (by omega), spec_l03Gap_ok s i h0, Option.bind_some, byteM_in h0 (by omega)]
    simp only [allN]
    cases hg : gapB (bt s i) with
    | true => rw [if_pos rfl, show noSt (bt s i) = false by simp [noSt, stB_gap hg], Bool.false_and, Bool.and_false]
    | false =>
      rw [if_neg (by decide), if_pos h0, spec_l04Flow_ok, Option.bind_some]
      cases hf : flB (bt s i) with
      | true => rw [if_pos rfl, show noSt (bt s i) = false by simp [noSt, stB_fl hf], Bool.false_and, Bool.and_false]
      | false =>
        rw [if_neg (by decide), show noSt (bt s i) = true by simp [noSt, stB_no hg hf], Bool.true_and, w64 (by omega) (by omega)]
        exact ih k (i + 1) (by omega) (by omega) (by omega)
theorem spec_l09Name_ok (s : ByteArray) (hs : s.size ≤ 140737488351232) (k : Nat) (hk : s.size < k) : spec_l09Name.f k s = some (nameB s) :=
  spec_l09Name_l0 s hs s.size k 0 (by omega) (by omega) hk

theorem evM_of {kind style : Int} {flag : Bool} {text anchor tag : ByteArray} {at_ code : Int} {b : Bool} (h : b = true ↔ EvP kind style flag text anchor tag at_ code) : (some b : Option Bool) = some (evM kind style flag text anchor tag at_ code) := by
  unfold evM
  congr 1
  rw [Bool.eq_iff_iff, h, decide_eq_true_eq]
theorem spec_EventOk_j4f (kind style : Int) (flag : Bool) (text anchor tag : ByteArray) (at_ code : Int) (ht : text.size ≤ 140737488351232) (ha1 : anchor.size ≤ 140737488351232) (k : Nat) (hk : text.size + anchor.size + 2 ≤ k) :
    spec_EventOk.j4 k false kind style flag text anchor tag at_ code = some (if kind = 10 then decide (1 ≤ code ∧ code ≤ 99 ∧ 0 ≤ at_) else if kind = 6 ∧ (text.size = 0 ∨ nameB text = false) then false else nameB anchor && decide (tag.size ≤ 120 ∧ code = 0 ∧ at_ = 0)) := by
  obtain ⟨k, rfl⟩ : ∃ m, k = m + 1 := ⟨k - 1, by omega⟩
  rw [spec_EventOk.j4, if_neg (by decide), spec_l09Name_ok anchor ha1 k (by omega), spec_l09Name_ok text ht k (by omega)]
  have hn : (text.toList = ([] : List UInt8)) = (text.size = 0) := propext tl_nil
  have hg : ((tag.size : Int) > 120) = ¬ (tag.size ≤ 120) := propext (by omega)
  have hz : (at_ == 0) = decide (at_ = 0) := by rw [Bool.eq_iff_iff, beq_iff_eq, decide_eq_true_eq]
  simp only [Option.bind_some, hn, hg, hz]
  by_cases c10 : kind = 10
  · rw [if_pos c10, if_pos c10]
    by_cases a : code ≥ 1 <;> by_cases b : code ≤ 99 <;> simp [a, b] <;> omega
  · rw [if_neg c10, if_neg c10]
    by_cases c6 : kind = 6 <;> by_cases d1 : text.size = 0 <;> cases nameB text <;> cases nameB anchor <;> by_cases d2 : tag.size ≤ 120 <;> by_cases d3 : code = 0 <;> simp [c6, d1, d2, d3]
theorem spec_EventOk_j3f (kind style : Int) (flag node : Bool) (text anchor tag : ByteArray) (at_ code : Int) (ht : text.size ≤ 140737488351232) (ha1 : anchor.size ≤ 140737488351232) (k : Nat) (hk : text.size + anchor.size + 3 ≤ k) :
    spec_EventOk.j3 k node false kind style flag text anchor tag at_ code =
    some (if (flag = true ∧ ¬ kind = 2 ∧ ¬ kind = 8) ∨ (¬ text.size = 0 ∧ ¬ kind = 5 ∧ ¬ kind = 6) ∨ ((¬ anchor.size = 0 ∨ ¬ tag.size = 0) ∧ node = false) then false else if kind = 10 then decide (1 ≤ code ∧ code ≤ 99 ∧ 0 ≤ at_) else if kind = 6 ∧ (text.size = 0 ∨ nameB text = false) then false else nameB anchor && decide (tag.size ≤ 120 ∧ code = 0 ∧ at_ = 0)) := by
  obtain ⟨k, rfl⟩ : ∃ m, k = m + 2 := ⟨k - 2, by omega⟩
  have f := spec_EventOk_j4f kind style flag text anchor tag at_ code ht ha1 (k + 1) (by omega)
  have t : spec_EventOk.j4 (k + 1) true kind style flag text anchor tag at_ code = some false := by rw [spec_EventOk.j4, if_pos rfl]
  have hn : (text.toList = ([] : List UInt8)) = (text.size = 0) := propext tl_nil
  have hna : (anchor.toList = ([] : List UInt8)) = (anchor.size = 0) := propext tl_nil
  have hng : (tag.toList = ([] : List UInt8)) = (tag.size = 0) := propext tl_nil
  have n : spec_EventOk.j4 (k + 1) (!node) kind style flag text anchor tag at_ code = if node = true then spec_EventOk.j4 (k + 1) false kind style flag text anchor tag at_ code else some false := by cases node <;> simp [t]
  rw [spec_EventOk.j3, if_neg (by decide)]
  simp only [n, t, hn, hna, hng, f]
  generalize (if kind = 10 then decide (1 ≤ code ∧ code ≤ 99 ∧ 0 ≤ at_) else if kind = 6 ∧ (text.size = 0 ∨ nameB text = false) then false else nameB anchor && decide (tag.size ≤ 120 ∧ code = 0 ∧ at_ = 0)) = v
  clear n t f hn hna hng hk ht ha1
  generalize text.size = ts
  generalize anchor.size = az
  generalize tag.size = gs
  cases flag <;> cases node <;> by_cases a : ts = 0 <;> by_cases b : az = 0 <;> by_cases c : gs = 0 <;> simp only [a, b, c, if_true, if_false, Bool.false_eq_true, not_true_eq_false, not_false_eq_true, true_and, false_and, and_true, and_false, or_true, or_false, true_or, false_or, reduceCtorEq] <;> (repeat' split) <;> first | rfl | (exfalso; omega) | grind
theorem spec_EventOk_ok (kind style : Int) (flag : Bool) (text anchor tag : ByteArray) (at_ code : Int) (ht : text.size ≤ 140737488351232) (ha1 : anchor.size ≤ 140737488351232) (k : Nat) (hk : text.size + anchor.size + 80 ≤ k) :
    spec_EventOk.f k kind style flag text anchor tag at_ code = some (evM kind style flag text anchor tag at_ code) := by
  obtain ⟨k, rfl⟩ : ∃ m, k = m + 5 := ⟨k - 5, by omega⟩
  have f := fun node => spec_EventOk_j3f kind style flag node text anchor tag at_ code ht ha1 (k + 2) (by omega)
  have t : ∀ node, spec_EventOk.j3 (k + 2) node true kind style flag text anchor tag at_ code = some false := fun node => by rw [spec_EventOk.j3, if_pos rfl]
  have ha : anchor.size = 0 → nameB anchor = true := nameB_none
  have hz : (kind == 5) = decide (kind = 5) := by rw [Bool.eq_iff_iff, beq_iff_eq, decide_eq_true_eq]
  have e : spec_EventOk.f (k + 5) kind style flag text anchor tag at_ code = spec_EventOk.j0 (k + 5) (decide (kind = 3 ∨ kind = 4 ∨ kind = 5)) kind style flag text anchor tag at_ code := by
    unfold spec_EventOk.f
    rw [hz]
    by_cases c3 : kind = 3
    · simp [c3]
    · by_cases c4 : kind = 4
      · simp [c4]
      · simp [c3, c4]
  have d : ∀ lo hi : Int, spec_EventOk.j2 (k + 3) (decide (kind = 3 ∨ kind = 4 ∨ kind = 5)) lo hi kind style flag text anchor tag at_ code = if 1 ≤ kind ∧ kind ≤ 10 ∧ lo ≤ style ∧ style ≤ hi then spec_EventOk.j3 (k + 2) (decide (kind = 3 ∨ kind = 4 ∨ kind = 5)) false kind style flag text anchor tag at_ code else some false := fun lo hi => by
    rw [spec_EventOk.j2, t]
    by_cases a1 : kind < 1
    · rw [if_pos a1, if_neg (by omega)]
    · by_cases a2 : kind > 10
      · rw [if_neg a1, if_pos a2, if_neg (by omega)]
      · by_cases a3 : style < lo
        · rw [if_neg a1, if_neg a2, if_pos a3, if_neg (by omega)]
        · rw [if_neg a1, if_neg a2, if_neg a3]
          by_cases a4 : style > hi
          · rw [show decide (style > hi) = true by simpa using a4, t, if_neg (by omega)]
          · rw [show decide (style > hi) = false by simpa using a4, if_pos (by omega)]
  rw [e]
  have g : spec_EventOk.j0 (k + 5) (decide (kind = 3 ∨ kind = 4 ∨ kind = 5)) kind style flag text anchor tag at_ code = if 1 ≤ kind ∧ kind ≤ 10 ∧ (if kind = 5 then 1 else if kind = 3 ∨ kind = 4 then 6 else 0) ≤ style ∧ style ≤ (if kind = 5 then 5 else if kind = 3 ∨ kind = 4 then 7 else 0) then spec_EventOk.j3 (k + 2) (decide (kind = 3 ∨ kind = 4 ∨ kind = 5)) false kind style flag text anchor tag at_ code else some false := by
    rw [spec_EventOk.j0]
    by_cases c5 : kind = 5
    · rw [if_pos (show decide (kind = 3 ∨ kind = 4 ∨ kind = 5) = true by simp [c5]), spec_EventOk.j1, if_pos c5, d, if_pos c5, if_pos c5]
    · by_cases c34 : kind = 3 ∨ kind = 4
      · rw [if_pos (show decide (kind = 3 ∨ kind = 4 ∨ kind = 5) = true by simp; omega), spec_EventOk.j1, if_neg c5, d, if_neg c5, if_neg c5, if_pos c34, if_pos c34]
      · rw [if_neg (show ¬ decide (kind = 3 ∨ kind = 4 ∨ kind = 5) = true by simp; omega), spec_EventOk.j1, if_neg c5, d, if_neg c5, if_neg c5, if_neg c34, if_neg c34]
  rw [g, f]
  clear f t d e g hz hk ht ha1
  unfold evM
  rw [← apply_ite some]
  congr 1
  rw [Bool.eq_iff_iff, decide_eq_true_eq]
  unfold EvP
  generalize nameB anchor = na at ha ⊢
  generalize nameB text = nt
  generalize text.size = ts
  generalize anchor.size = az at ha ⊢
  generalize tag.size = gs
  by_cases c5 : kind = 5
  · subst c5; simp; grind
  · by_cases c34 : kind = 3 ∨ kind = 4
    · rcases c34 with rfl | rfl
      · simp; grind
      · simp; grind
    · by_cases c6 : kind = 6
      · subst c6; simp; grind
      · by_cases c10 : kind = 10
        · subst c10; simp; grind
        · simp only [c5, c34, c6, c10, if_false]
          grind

def prM (a t : ByteArray) : ByteArray := (if a.size = 0 then ⟨#[]⟩ else (⟨#[32, 38]⟩ : ByteArray) ++ a) ++ (if t.size = 0 then ⟨#[]⟩ else (⟨#[32, 60]⟩ : ByteArray) ++ t ++ (⟨#[62]⟩ : ByteArray))
theorem prM_size (a t : ByteArray) : (prM a t).size ≤ a.size + t.size + 5 := by
  have h2 : (⟨#[32, 38]⟩ : ByteArray).size = 2 := rfl
  have h3 : (⟨#[32, 60]⟩ : ByteArray).size = 2 := rfl
  have h1 : (⟨#[62]⟩ : ByteArray).size = 1 := rfl
  unfold prM
  split <;> split <;> simp only [size_app, size_none, h1, h2, h3] <;> omega
theorem spec_l09Props_ok (kind style : Int) (flag : Bool) (text anchor tag : ByteArray) (at_ code : Int) (ha : anchor.size ≤ 140737488351232) (hg : tag.size ≤ 140737488351232) : spec_l09Props.f kind style flag text anchor tag at_ code = some (prM anchor tag) := by
  have hna : (anchor.toList = ([] : List UInt8)) = (anchor.size = 0) := propext tl_nil
  have hng : (tag.toList = ([] : List UInt8)) = (tag.size = 0) := propext tl_nil
  have h2 : (⟨#[32, 38]⟩ : ByteArray).size = 2 := rfl
  have h3 : (⟨#[32, 60]⟩ : ByteArray).size = 2 := rfl
  unfold spec_l09Props.f prM
  simp only [hna, hng, size_app, size_none, h2, h3]
  by_cases h : anchor.size = 0
  · rw [if_pos h, if_pos h]
    by_cases h' : tag.size = 0
    · rw [if_pos h', if_pos h', nil_app]
    · rw [if_neg h', if_neg h', if_pos (by omega), if_pos (by omega), if_pos (by omega)]
      simp only [app_assoc, nil_app]
  · rw [if_neg h, if_neg h, if_pos (by omega)]
    by_cases h' : tag.size = 0
    · rw [if_pos h', if_pos h', app_nil]
    · rw [if_neg h', if_neg h', if_pos (by omega), if_pos (by omega), if_pos (by omega)]
      simp only [app_assoc]

def esM (s : ByteArray) : ByteArray := strOfNums ((bytesOf s).flatMap esc1)
theorem esM_size (s : ByteArray) : (esM s).size ≤ 13 * s.size := by
  unfold esM
  rw [son_size]
  have := escL_len (bytesOf s)
  rwa [show (bytesOf s).length = s.size by simp [bytesOf]] at this
theorem spec_l09Escape_ok (s : ByteArray) (h : s.size ≤ 1000000000000) : spec_l09Escape.f s = some (esM s) := by
  unfold spec_l09Escape.f
  rw [if_pos h]
  rfl

theorem spec_NumText_in (d : Nat) : ∀ (k : Nat) (n : Int), 0 ≤ n → n ≤ 4294967295 → n ≤ d → 2 * d + 2 ≤ k → spec_NumText.f k n = some (decM n.toNat) := by
  induction d with
  | zero =>
    intro k n h0 h1 hd hk
    obtain ⟨k, rfl⟩ : ∃ m, k = m + 2 := ⟨k - 2, by omega⟩
    obtain rfl : n = 0 := by omega
    simp only [spec_NumText.f]
    rw [if_neg (by omega), show decide ((0 : Int) > 4294967295) = false from rfl]
    simp only [spec_NumText.j0, Bool.false_eq_true, if_false]
    rw [if_pos (by omega), decM_small (by decide), w64 (by omega) (by omega)]
    unfold digC
    rw [show ((48 : Int) + 0) % 256 = 48 + ((Int.toNat 0 : Nat) : Int) from rfl]
  | succ d ih =>
    intro k n h0 h1 hd hk
    obtain ⟨k, rfl⟩ : ∃ m, k = m + 2 := ⟨k - 2, by omega⟩
    simp only [spec_NumText.f]
    rw [if_neg (by omega), show decide (n > 4294967295) = false by simp; omega]
    simp only [spec_NumText.j0, Bool.false_eq_true, if_false]
    by_cases h : n < 10
    · rw [if_pos h, decM_small (by omega), w64 (by omega) (by omega)]
      unfold digC
      rw [show (48 + n) % 256 = 48 + ((n.toNat : Nat) : Int) by omega]
    · rw [if_neg h, Int.tdiv_eq_ediv_of_nonneg h0, Int.tmod_eq_emod_of_nonneg h0, w64 (by omega) (by omega), ih k (n / 10) (by omega) (by omega) (by omega) (by omega)]
      have hs := decM_size (n / 10).toNat
      simp only [Option.bind_some]
      rw [if_pos (by rw [son_size]; simp only [List.length_cons, List.length_nil]; omega), decM_big (n := n.toNat) (by omega), w64 (by omega) (by omega)]
      unfold digC
      rw [show (n / 10).toNat = n.toNat / 10 by omega, show (48 + n % 10) % 256 = 48 + ((n.toNat % 10 : Nat) : Int) by omega]
theorem spec_NumText_ok (n : Int) (k : Nat) (hk : 8589934600 ≤ k) : spec_NumText.f k n = some (numM n) := by
  unfold numM
  by_cases h : 0 ≤ n ∧ n ≤ 4294967295
  · rw [if_pos h]; exact spec_NumText_in n.toNat k n h.1 h.2 (by omega) (by omega)
  · rw [if_neg h]
    obtain ⟨k, rfl⟩ : ∃ m, k = m + 2 := ⟨k - 2, by omega⟩
    simp only [spec_NumText.f]
    by_cases h0 : n < 0
    · rw [if_pos h0]; rfl
    · rw [if_neg h0, show decide (n > 4294967295) = true by simp; omega]; rfl

def etM (kind style : Int) (flag : Bool) (text anchor tag : ByteArray) (at_ code : Int) : ByteArray :=
  if evM kind style flag text anchor tag at_ code = true then
    (if kind = 1 then ⟨#[43, 83, 84, 82]⟩ else if kind = 2 then (if flag = true then ⟨#[43, 68, 79, 67, 32, 45, 45, 45]⟩ else ⟨#[43, 68, 79, 67]⟩)
     else if kind = 3 then (if style = 6 then (⟨#[43, 83, 69, 81, 32, 91, 93]⟩ : ByteArray) ++ prM anchor tag else (⟨#[43, 83, 69, 81]⟩ : ByteArray) ++ prM anchor tag)
     else if kind = 4 then (if style = 6 then (⟨#[43, 77, 65, 80, 32, 123, 125]⟩ : ByteArray) ++ prM anchor tag else (⟨#[43, 77, 65, 80]⟩ : ByteArray) ++ prM anchor tag)
     else if kind = 5 then ((((⟨#[61, 86, 65, 76]⟩ : ByteArray) ++ prM anchor tag) ++ (⟨#[32]⟩ : ByteArray)) ++ ((⟨#[32, 58, 39, 34, 124, 62]⟩ : ByteArray).extract style.toNat (style + 1).toNat)) ++ esM text
     else if kind = 6 then (⟨#[61, 65, 76, 73, 32, 42]⟩ : ByteArray) ++ text
     else if kind = 7 then ⟨#[45, 69, 78, 68]⟩ else if kind = 8 then (if flag = true then ⟨#[45, 68, 79, 67, 32, 46, 46, 46]⟩ else ⟨#[45, 68, 79, 67]⟩)
     else if kind = 9 then ⟨#[45, 83, 84, 82]⟩
     else (((⟨#[33, 70, 65, 85, 76, 84, 32]⟩ : ByteArray) ++ numM code) ++ (⟨#[32]⟩ : ByteArray)) ++ numM at_)
  else ⟨#[]⟩
theorem decM_len (d : Nat) : ∀ n : Nat, n < 10 ^ (d + 1) → (decM n).size ≤ d + 1 := by
  induction d with
  | zero =>
    intro n h
    rw [decM_small (by omega), digC_size]
    omega
  | succ d ih =>
    intro n h
    by_cases h1 : n < 10
    · rw [decM_small h1, digC_size]; omega
    · rw [decM_big h1, size_app, digC_size]
      have := ih (n / 10) (by rw [Nat.pow_succ] at h; omega)
      omega
theorem numM_size (n : Int) : (numM n).size ≤ 10 := by
  unfold numM
  split
  · exact decM_len 9 n.toNat (by omega)
  · rw [size_none]; omega
theorem ext_size (a : ByteArray) (i j : Nat) : (a.extract i j).size ≤ a.size := by
  rw [ByteArray.size_extract]; omega
theorem evP_style {kind style : Int} {flag : Bool} {text anchor tag : ByteArray} {at_ code : Int} (h : evM kind style flag text anchor tag at_ code = true) (h5 : kind = 5) : 1 ≤ style ∧ style ≤ 5 := by
  have := of_decide_eq_true (p := EvP kind style flag text anchor tag at_ code) h
  unfold EvP at this
  omega
theorem spec_EventText_ok (kind style : Int) (flag : Bool) (text anchor tag : ByteArray) (at_ code : Int) (ht : text.size ≤ 1048576) (ha : anchor.size ≤ 1048576) (hg : tag.size ≤ 1048576) (k : Nat) (hk : 8589934600 ≤ k) (hk1 : text.size + anchor.size + 100 ≤ k) :
    spec_EventText.f k kind style flag text anchor tag at_ code = some (etM kind style flag text anchor tag at_ code) := by
  have hp := prM_size anchor tag
  have he := esM_size text
  have hn1 := numM_size code
  have hn2 := numM_size at_
  unfold spec_EventText.f etM
  simp only [spec_EventOk_ok kind style flag text anchor tag at_ code (by omega) (by omega) k (by omega), spec_l09Props_ok kind style flag text anchor tag at_ code (by omega) (by omega), spec_l09Escape_ok text (by omega), spec_NumText_ok _ k hk, Option.bind_some]
  by_cases hv : evM kind style flag text anchor tag at_ code = true
  · rw [if_pos hv, if_pos hv]
    by_cases h1 : kind = 1
    · rw [if_pos h1, if_pos h1]
    · rw [if_neg h1, if_neg h1]
      by_cases h2 : kind = 2
      · rw [if_pos h2, if_pos h2]; split <;> rfl
      · rw [if_neg h2, if_neg h2]
        by_cases h3 : kind = 3
        · rw [if_pos h3, if_pos h3, if_pos (show 7 + (prM anchor tag).size ≤ 9223372036854775807 by omega), if_pos (show 4 + (prM anchor tag).size ≤ 9223372036854775807 by omega)]; split <;> rfl
        · rw [if_neg h3, if_neg h3]
          by_cases h4 : kind = 4
          · rw [if_pos h4, if_pos h4, if_pos (show 7 + (prM anchor tag).size ≤ 9223372036854775807 by omega), if_pos (show 4 + (prM anchor tag).size ≤ 9223372036854775807 by omega)]; split <;> rfl
          · rw [if_neg h4, if_neg h4]
            by_cases h5 : kind = 5
            · obtain ⟨s1, s2⟩ := evP_style hv h5
              have hx := ext_size (⟨#[32, 58, 39, 34, 124, 62]⟩ : ByteArray) style.toNat (style + 1).toNat
              rw [show (⟨#[32, 58, 39, 34, 124, 62]⟩ : ByteArray).size = 6 from rfl] at hx
              have h61 : (⟨#[61, 86, 65, 76]⟩ : ByteArray).size = 4 := rfl
              have h32 : (⟨#[32]⟩ : ByteArray).size = 1 := rfl
              rw [if_pos h5, if_pos h5, w64 (by omega) (by omega), if_pos (by omega), if_pos (by rw [size_app, h61]; omega), if_pos (by omega), if_pos (by omega), if_pos (by omega), if_pos (by simp only [size_app, h61, h32]; omega), if_pos (by simp only [size_app, h61, h32]; omega)]
            · rw [if_neg h5, if_neg h5]
              by_cases h6 : kind = 6
              · rw [if_pos h6, if_pos h6, if_pos (by omega)]
              · rw [if_neg h6, if_neg h6]
                by_cases h7 : kind = 7
                · rw [if_pos h7, if_pos h7]
                · rw [if_neg h7, if_neg h7]
                  by_cases h8 : kind = 8
                  · rw [if_pos h8, if_pos h8]; split <;> rfl
                  · rw [if_neg h8, if_neg h8]
                    by_cases h9 : kind = 9
                    · rw [if_pos h9, if_pos h9]
                    · have h33 : (⟨#[33, 70, 65, 85, 76, 84, 32]⟩ : ByteArray).size = 7 := rfl
                      have h32 : (⟨#[32]⟩ : ByteArray).size = 1 := rfl
                      rw [if_neg h9, if_neg h9, if_pos (by omega), if_pos (by rw [size_app, h33]; omega), if_pos (by simp only [size_app, h33, h32]; omega)]
  · rw [if_neg hv, if_neg hv]

def evT (x : S29) : ByteArray := etM x.f0 x.f1 x.f2 x.f3 x.f4 x.f5 x.f6 x.f7
def etsM (l : List S29) : List Int := l.flatMap fun x => bytesOf (evT x) ++ [10]
def totI : List S29 → Nat
  | [] => 0
  | x :: r => x.f3.size + x.f4.size + x.f5.size + totI r
theorem ite_size {c : Prop} [Decidable c] {x y : ByteArray} {n : Nat} (hx : x.size ≤ n) (hy : y.size ≤ n) : (if c then x else y).size ≤ n := by
  split
  · exact hx
  · exact hy
theorem etM_size (kind style : Int) (flag : Bool) (text anchor tag : ByteArray) (at_ code : Int) : (etM kind style flag text anchor tag at_ code).size ≤ 13 * (text.size + anchor.size + tag.size) + 60 := by
  have hp := prM_size anchor tag
  have he := esM_size text
  have hn1 := numM_size code
  have hn2 := numM_size at_
  have hx := ext_size (⟨#[32, 58, 39, 34, 124, 62]⟩ : ByteArray) style.toNat (style + 1).toNat
  rw [show (⟨#[32, 58, 39, 34, 124, 62]⟩ : ByteArray).size = 6 from rfl] at hx
  have e1 : (⟨#[43, 83, 84, 82]⟩ : ByteArray).size = 4 := rfl
  have e2 : (⟨#[43, 68, 79, 67, 32, 45, 45, 45]⟩ : ByteArray).size = 8 := rfl
  have e3 : (⟨#[43, 68, 79, 67]⟩ : ByteArray).size = 4 := rfl
  have e4 : (⟨#[43, 83, 69, 81, 32, 91, 93]⟩ : ByteArray).size = 7 := rfl
  have e5 : (⟨#[43, 83, 69, 81]⟩ : ByteArray).size = 4 := rfl
  have e6 : (⟨#[43, 77, 65, 80, 32, 123, 125]⟩ : ByteArray).size = 7 := rfl
  have e7 : (⟨#[43, 77, 65, 80]⟩ : ByteArray).size = 4 := rfl
  have e8 : (⟨#[61, 86, 65, 76]⟩ : ByteArray).size = 4 := rfl
  have e9 : (⟨#[32]⟩ : ByteArray).size = 1 := rfl
  have e10 : (⟨#[61, 65, 76, 73, 32, 42]⟩ : ByteArray).size = 6 := rfl
  have e11 : (⟨#[45, 69, 78, 68]⟩ : ByteArray).size = 4 := rfl
  have e12 : (⟨#[45, 68, 79, 67, 32, 46, 46, 46]⟩ : ByteArray).size = 8 := rfl
  have e13 : (⟨#[45, 68, 79, 67]⟩ : ByteArray).size = 4 := rfl
  have e14 : (⟨#[45, 83, 84, 82]⟩ : ByteArray).size = 4 := rfl
  have e15 : (⟨#[33, 70, 65, 85, 76, 84, 32]⟩ : ByteArray).size = 7 := rfl
  unfold etM
  repeat' apply ite_size
  all_goals (simp only [size_app, e1, e2, e3, e4, e5, e6, e7, e8, e9, e10, e11, e12, e13, e14, e15, size_none]; omega)
theorem bo_len (s : ByteArray) : (bytesOf s).length = s.size := by simp [bytesOf]
theorem spec_EventsText_l0 (l : List S29) (hl : l.length ≤ 1048576) (hb : ∀ a ∈ l, a.f3.size ≤ 1048576 ∧ a.f4.size ≤ 1048576 ∧ a.f5.size ≤ 1048576) (d : Nat) : ∀ (k : Nat) (i : Int) (acc : List Int), 0 ≤ i → (l.length : Int) - i = d → acc.length + 13 * totI (l.drop i.toNat) + d * 61 ≤ 4000000000000 → d + 8600000000 < k →
    spec_EventsText.l0 k acc l (l.length : Int) i = some (strOfNums (acc ++ etsM (l.drop i.toNat))) := by
  induction d with
  | zero =>
    intro k i acc h0 hd ha hk
    obtain ⟨k, rfl⟩ : ∃ m, k = m + 1 := ⟨k - 1, by omega⟩
    rw [spec_EventsText.l0, if_neg (by omega), drop_end _ _ (by omega)]
    unfold etsM
    rw [List.flatMap_nil, List.append_nil]
  | succ d ih =>
    intro k i acc h0 hd ha hk
    obtain ⟨k, rfl⟩ : ∃ m, k = m + 1 := ⟨k - 1, by omega⟩
    have hi : i < (l.length : Int) := by omega
    obtain ⟨b1, b2, b3⟩ := hb _ (List.mem_of_getElem? (getD_some z29 l i h0 hi))
    rw [spec_EventsText.l0, if_pos hi, if_pos h0, if_pos hi, w64 (n := i + 1) (by omega) (by omega)]
    rw [drop_at z29 l i h0 hi] at ha ⊢
    have b1' : (rd_T29 l i).f3.size ≤ 1048576 := b1
    have b2' : (rd_T29 l i).f4.size ≤ 1048576 := b2
    have b3' : (rd_T29 l i).f5.size ≤ 1048576 := b3
    have ha' : acc.length + 13 * ((rd_T29 l i).f3.size + (rd_T29 l i).f4.size + (rd_T29 l i).f5.size + totI (l.drop (i + 1).toNat)) + (d + 1) * 61 ≤ 4000000000000 := ha
    show _ = some (strOfNums (acc ++ etsM (rd_T29 l i :: l.drop (i + 1).toNat)))
    clear ha b1 b2 b3
    generalize rd_T29 l i = x at b1' b2' b3' ha'
    have hz := etM_size x.f0 x.f1 x.f2 x.f3 x.f4 x.f5 x.f6 x.f7
    rw [spec_EventText_ok x.f0 x.f1 x.f2 x.f3 x.f4 x.f5 x.f6 x.f7 b1' b2' b3' k (by omega) (by omega), Option.bind_some]
    rw [show etM x.f0 x.f1 x.f2 x.f3 x.f4 x.f5 x.f6 x.f7 = evT x from rfl] at hz ⊢
    have hlen : (acc ++ bytesOf (evT x)).length = acc.length + (evT x).size := by rw [List.length_append, bo_len]
    rw [if_pos (by omega), Option.bind_some, if_pos (by rw [hlen]; omega)]
    rw [ih k (i + 1) (acc ++ bytesOf (evT x) ++ [10]) (by omega) (by omega) (by rw [List.length_append, hlen, List.length_singleton]; omega) (by omega)]
    unfold etsM
    rw [List.flatMap_cons, List.append_assoc, List.append_assoc, List.append_assoc]
theorem spec_EventsText_ok (l : List S29) (hl : l.length ≤ 1048576) (hb : ∀ a ∈ l, a.f3.size ≤ 1048576 ∧ a.f4.size ≤ 1048576 ∧ a.f5.size ≤ 1048576) (ht : totI l ≤ 1048576) (k : Nat) (hk : l.length + 8600000000 < k) : spec_EventsText.f k l = some (strOfNums (etsM l)) := by
  unfold spec_EventsText.f
  have := spec_EventsText_l0 l hl hb l.length k 0 [] (by omega) (by omega) (by rw [show (0 : Int).toNat = 0 from rfl, List.drop_zero, List.length_nil]; omega) hk
  rw [show (0 : Int).toNat = 0 from rfl, List.drop_zero, List.nil_append] at this
  exact this

def cvE (x : S26) : S29 := ⟨x.f0, x.f1, x.f2, x.f3, x.f4, x.f5, x.f6, x.f7⟩
theorem laws_toEventS_l0 (l : List S26) (hl : l.length ≤ 1048576) (z : S29) (d : Nat) : ∀ (k : Nat) (i : Int), 0 ≤ i → (l.length : Int) - i = d → d < k →
    laws_toEventS.l0 k l ((l.map cvE).take i.toNat ++ List.replicate ((l.map cvE).length - i.toNat) z) i = some (l.map cvE) := by
  have hlm : (l.map cvE).length = l.length := List.length_map _
  induction d with
  | zero =>
    intro k i h0 hd hk
    obtain ⟨k, rfl⟩ : ∃ m, k = m + 1 := ⟨k - 1, by omega⟩
    rw [laws_toEventS.l0, if_neg (by omega), copy_end z _ i (by omega)]
  | succ d ih =>
    intro k i h0 hd hk
    obtain ⟨k, rfl⟩ : ∃ m, k = m + 1 := ⟨k - 1, by omega⟩
    have hi : i < (l.length : Int) := by omega
    have hv : (l.map cvE)[i.toNat]? = some (⟨(rd_T26 l i).f0, (rd_T26 l i).f1, (rd_T26 l i).f2, (rd_T26 l i).f3, (rd_T26 l i).f4, (rd_T26 l i).f5, (rd_T26 l i).f6, (rd_T26 l i).f7⟩ : S29) := by
      rw [List.getElem?_map, getD_some z26 l i h0 hi]
      rfl
    rw [laws_toEventS.l0, if_pos hi, if_pos h0]
    simp only [laws_toEvent.f, Option.bind_some]
    rw [copy_len z _ i h0 (by omega), hlm, if_pos hi, ← hlm, copy_set z _ _ i h0 (by omega) hv, w64 (by omega) (by omega)]
    exact ih k (i + 1) (by omega) (by omega) (by omega)
theorem laws_toEventS_ok (l : List S26) (hl : l.length ≤ 1048576) (k : Nat) (hk : l.length < k) : laws_toEventS.f k l = some (l.map cvE) := by
  unfold laws_toEventS.f
  rw [if_pos (by omega), if_pos (by omega)]
  have := laws_toEventS_l0 l hl z29 l.length k 0 (by omega) (by omega) hk
  rw [List.length_map] at this
  exact this

theorem impl_within_ok (a b c : Int) : impl_within.f a b c = some (decide (b ≤ a ∧ a ≤ c)) := by
  unfold impl_within.f
  by_cases h : a ≥ b
  · rw [if_pos h]; simp only [Option.some.injEq, decide_eq_decide]; omega
  · rw [if_neg h]; simp only [Option.some.injEq]; symm; simp only [decide_eq_false_iff_not]; omega

theorem impl_isWhite_ok (b : Int) : impl_isWhite.f b = some (whB b) := by
  unfold impl_isWhite.f
  by_cases h : b = 32
  · rw [if_pos h, whB_iff.mpr (.inl h)]
  · rw [if_neg h]
    by_cases h9 : b = 9
    · rw [h9]; rfl
    · rw [whB_not.mpr (by omega)]; simp [h9]

theorem impl_isBreak_ok (b : Int) : impl_isBreak.f b = some (brB b) := by
  unfold impl_isBreak.f brB
  by_cases h : b = 10
  · simp [h]
  · rw [if_neg h]; simp [h]

theorem impl_isFlow_ok (b : Int) : impl_isFlow.f b = some (flB b) := by
  unfold impl_isFlow.f flB
  by_cases h1 : b = 44
  · simp [h1]
  · by_cases h2 : b = 91
    · simp [h2]
    · by_cases h3 : b = 93
      · simp [h3]
      · by_cases h4 : b = 123
        · simp [h4]
        · by_cases h5 : b = 125
          · simp [h5]
          · simp [h1, h2, h3, h4, h5]

theorem impl_isName_l0 (s : ByteArray) (hs : s.size ≤ 60) (d : Nat) : ∀ (k : Nat) (i : Int), 0 ≤ i → (s.size : Int) - i = d → d < k → impl_isName.l0 k s (s.size : Int) i = some (allN noSt s d i) := by
  induction d with
  | zero =>
    intro k i h0 hd hk
    obtain ⟨k, rfl⟩ : ∃ m, k = m + 1 := ⟨k - 1, by omega⟩
    rw [impl_isName.l0, if_neg (by omega)]
    rfl
  | succ d ih =>
    intro k i h0 hd hk
    obtain ⟨k, rfl⟩ : ∃ m, k = m + 1 := ⟨k - 1, by omega⟩
    have h1 := bt_lo s i
    have h2 := bt_hi s i
    rw [impl_isName.l0, if_pos (by omega), if_pos h0, if_pos (by omega), w64 (n := bt s i) (by omega) (by omega), w64 (n := i + 1) (by omega) (by omega), ih k (i + 1) (by omega) (by omega) (by omega), impl_isWhite_ok, impl_isBreak_ok, impl_isFlow_ok]
    simp only [Option.bind_some, allN]
    have e : noSt (bt s i) = !(whB (bt s i) || brB (bt s i) || flB (bt s i)) := by simp only [noSt, stB, gapB_eq]
    rw [e]
    cases whB (bt s i) <;> cases brB (bt s i) <;> cases flB (bt s i) <;> simp
theorem impl_isName_ok (s : ByteArray) (k : Nat) (hk : 70 ≤ k) : impl_isName.f k s = some (nameB s) := by
  unfold impl_isName.f nameB
  by_cases h : (s.size : Int) > 60
  · rw [if_pos h, show decide (s.size ≤ 60) = false by simp; omega, Bool.false_and]
  · rw [if_neg h, show decide (s.size ≤ 60) = true by simp; omega, Bool.true_and]
    exact impl_isName_l0 s (by omega) s.size k 0 (by omega) (by omega) (by omega)

theorem impl_EventOk_pre (k : Nat) (hk : 80 ≤ k) (kind style : Int) (text : ByteArray) (at_ code : Int) : impl_EventOk.pre k kind style text at_ code =
    some (decide (kind = 1 ∨ kind = 7 ∨ kind = 9 ∨ kind = 2 ∨ kind = 8 ∨ ((kind = 3 ∨ kind = 4) ∧ 6 ≤ style ∧ style ≤ 7) ∨ (kind = 5 ∧ 1 ≤ style ∧ style ≤ 5) ∨ (kind = 6 ∧ ¬ text.size = 0 ∧ nameB text = true) ∨ (kind = 10 ∧ 1 ≤ code ∧ code ≤ 99 ∧ 0 ≤ at_))) := by
  have t0 := impl_isName_ok text k (by omega)
  have he : text.toList.isEmpty = decide (text.size = 0) := by
    rw [Bool.eq_iff_iff, List.isEmpty_iff, decide_eq_true_eq]
    exact tl_nil
  unfold impl_EventOk.pre
  simp only [t0, impl_within_ok, Option.bind_some, he]
  generalize nameB text = nt
  generalize text.size = ts
  by_cases h1 : kind = 1 ∨ kind = 7 ∨ kind = 9 ∨ kind = 2 ∨ kind = 8
  · rw [if_pos h1]
    congr 1
    symm
    rw [decide_eq_true_eq]
    omega
  · rw [if_neg h1]
    by_cases h3 : kind = 3 ∨ kind = 4
    · rw [if_pos h3]
      congr 1
      rw [Bool.eq_iff_iff, decide_eq_true_eq]
      simp
      omega
    · rw [if_neg h3]
      by_cases h5 : kind = 5
      · rw [if_pos h5]
        congr 1
        rw [Bool.eq_iff_iff, decide_eq_true_eq]
        simp
        omega
      · rw [if_neg h5]
        by_cases h6 : kind = 6
        · rw [if_pos h6]
          subst h6
          by_cases hz : ts = 0
          · rw [if_pos (by simpa using hz)]
            congr 1
            symm
            rw [decide_eq_false_iff_not]
            omega
          · rw [if_neg (by simpa using hz)]
            congr 1
            cases nt <;> simp [hz]
        · rw [if_neg h6]
          by_cases h10 : kind = 10
          · rw [if_pos h10]
            subst h10
            by_cases hc : 1 ≤ code ∧ code ≤ 99
            · by_cases ha : at_ < 0
              · simp [hc, ha]
              · simp [hc, ha]; omega
            · simp [hc]
              intro q
              omega
          · rw [if_neg h10]
            congr 1
            symm
            rw [decide_eq_false_iff_not]
            omega
theorem impl_EventOk_ok (kind style : Int) (flag : Bool) (text anchor tag : ByteArray) (at_ code : Int) (k : Nat) (hk : 80 ≤ k) :
    impl_EventOk.f k kind style flag text anchor tag at_ code = some (evM kind style flag text anchor tag at_ code) := by
  have n1 := impl_isName_ok anchor k (by omega)
  have ha : anchor.size = 0 → nameB anchor = true := nameB_none
  have hs : ∀ s t : ByteArray, ∀ p : Prop, [Decidable p] → (s.toList == (if p then s else (⟨#[]⟩ : ByteArray)).toList) = decide (p ∨ s.size = 0) := by
    intro s t p _
    by_cases hp : p
    · rw [if_pos hp]; simp [hp]
    · rw [if_neg hp, eq_none]; simp [hp]
  unfold impl_EventOk.f
  rw [impl_EventOk_pre k hk, Option.bind_some, n1]
  simp only [Option.bind_some]
  have hq : impl_EventOk.eqE kind style flag text anchor tag at_ code = decide (((kind = 3 ∨ kind = 4 ∨ kind = 5) ∨ style = 0) ∧ ((kind = 2 ∨ kind = 8) ∨ flag = false) ∧ ((kind = 5 ∨ kind = 6) ∨ text.size = 0) ∧ ((kind = 3 ∨ kind = 4 ∨ kind = 5) ∨ anchor.size = 0) ∧ ((kind = 3 ∨ kind = 4 ∨ kind = 5) ∨ tag.size = 0) ∧ (kind = 10 ∨ at_ = 0) ∧ (kind = 10 ∨ code = 0)) := by
    unfold impl_EventOk.eqE impl_EventOk.eqB impl_EventOk.os impl_EventOk.ofl impl_EventOk.ot impl_EventOk.oa impl_EventOk.oc
    have hi : ∀ (a : Int) (p : Prop), [Decidable p] → (a == (if p then a else 0)) = decide (p ∨ a = 0) := by
      intro a p _
      by_cases hp : p
      · simp [hp]
      · by_cases hz : a = 0 <;> simp [hp, hz]
    have hf : ∀ (a : Bool) (p : Prop), [Decidable p] → (a == (if p then a else false)) = decide (p ∨ a = false) := by
      intro a p _
      by_cases hp : p <;> cases a <;> simp [hp]
    rw [hi, hi, hi, hf, hs text text, hs anchor text, hs tag text, beq_self_eq_true, Bool.true_and]
    simp only [Bool.decide_and]
  rw [hq]
  unfold evM
  rw [show ∀ (b c : Bool) (x y : Option Bool), (if b = true then (if c = true then x else y) else y) = if (b && c) = true then x else y from fun b c x y => by cases b <;> cases c <;> rfl]
  have hx : (if nameB anchor = true then (some (decide ((tag.size : Int) ≤ 120))) else (some false)) = some (nameB anchor && decide (tag.size ≤ 120)) := by
    cases nameB anchor
    · rfl
    · rw [if_pos rfl, Bool.true_and]
      congr 1
      rw [decide_eq_decide]
      omega
  rw [hx, ← apply_ite some]
  congr 1
  rw [Bool.eq_iff_iff, decide_eq_true_eq]
  unfold EvP
  generalize nameB anchor = na at ha ⊢
  generalize nameB text = nt
  generalize text.size = ts
  generalize anchor.size = az at ha ⊢
  generalize tag.size = gs
  clear hs n1 hq hx
  rw [← Bool.decide_and]
  by_cases hA : (kind = 1 ∨ kind = 7 ∨ kind = 9 ∨ kind = 2 ∨ kind = 8 ∨ ((kind = 3 ∨ kind = 4) ∧ 6 ≤ style ∧ style ≤ 7) ∨ (kind = 5 ∧ 1 ≤ style ∧ style ≤ 5) ∨ (kind = 6 ∧ ¬ ts = 0 ∧ nt = true) ∨ (kind = 10 ∧ 1 ≤ code ∧ code ≤ 99 ∧ 0 ≤ at_)) ∧ (((kind = 3 ∨ kind = 4 ∨ kind = 5) ∨ style = 0) ∧ ((kind = 2 ∨ kind = 8) ∨ flag = false) ∧ ((kind = 5 ∨ kind = 6) ∨ ts = 0) ∧ ((kind = 3 ∨ kind = 4 ∨ kind = 5) ∨ az = 0) ∧ ((kind = 3 ∨ kind = 4 ∨ kind = 5) ∨ gs = 0) ∧ (kind = 10 ∨ at_ = 0) ∧ (kind = 10 ∨ code = 0))
  · rw [if_pos (decide_eq_true hA), Bool.and_eq_true, decide_eq_true_eq]
    obtain ⟨hk, hs1, hf1, ht1, ha1, hg1, hat, hc⟩ := hA
    rcases hk with rfl | rfl | rfl | rfl | rfl | ⟨rfl | rfl, q1, q2⟩ | ⟨rfl, q1, q2⟩ | ⟨rfl, q1, q2⟩ | ⟨rfl, q1, q2, q3⟩ <;> simp_all <;> grind
  · rw [if_neg (by simpa only [decide_eq_true_eq] using hA)]
    constructor
    · intro h; cases h
    · intro h
      exfalso
      apply hA
      grind

theorem impl_marked_ok (kind style : Int) (flag : Bool) (text anchor tag : ByteArray) (at_ code : Int) (ha : anchor.size ≤ 140737488351232) (hg : tag.size ≤ 140737488351232) : impl_marked.f kind style flag text anchor tag at_ code = some (prM anchor tag) :=
  spec_l09Props_ok kind style flag text anchor tag at_ code ha hg

theorem bytes_drop (s : ByteArray) (i : Nat) (h : i < s.size) : (bytesOf s).drop i = bt s (i : Int) :: (bytesOf s).drop (i + 1) := by
  have hl : i < (bytesOf s).length := by simp [bytesOf]; exact h
  rw [List.drop_eq_getElem_cons hl]
  congr 1
  simp [bytesOf, bt, h]
  rfl
theorem esc1_none (b : Int) (h1 : ¬ b = 92) (h2 : ¬ b = 10) (h3 : ¬ b = 9) (h4 : ¬ b = 13) (h5 : ¬ b = 8) (h6 : ¬ b = 0) : esc1 b = [b] := by
  have e : escF b 6 = false ∧ escP b 6 = [] := by simp [escF, escP, rd, escRow, h1, h2, h3, h4, h5, h6]
  unfold esc1
  rw [e.1, e.2]
  rfl
theorem impl_escaped_lp (s : ByteArray) (hs : s.size ≤ 1000000000000) (d : Nat) : ∀ (i : Nat) (acc : List Int) (k : Nat), i + d = s.size → acc.length + 2 * d ≤ 4000000000000 → d + 1 ≤ k →
    impl_escaped.l0 k s acc (s.size : Int) (i : Int) = some (strOfNums (acc ++ ((bytesOf s).drop i).flatMap esc1)) := by
  induction d with
  | zero =>
    intro i acc k hi ha hk
    obtain ⟨k, rfl⟩ : ∃ m, k = m + 1 := ⟨k - 1, by omega⟩
    rw [impl_escaped.l0, if_neg (by omega), List.drop_of_length_le (by simp [bytesOf]; omega), List.flatMap_nil, List.append_nil]
  | succ d ih =>
    intro i acc k hi ha hk
    obtain ⟨k, rfl⟩ : ∃ m, k = m + 1 := ⟨k - 1, by omega⟩
    have step : ∀ ys : List Int, ys.length ≤ 2 → impl_escaped.l0 k s (acc ++ ys) (s.size : Int) ((i + 1 : Nat) : Int) = some (strOfNums (acc ++ (ys ++ ((bytesOf s).drop (i + 1)).flatMap esc1))) := by
      intro ys hy
      rw [ih (i + 1) (acc ++ ys) k (by omega) (by rw [List.length_append]; omega) (by omega), List.append_assoc]
    rw [impl_escaped.l0, if_pos (by omega), if_pos (by omega), if_pos (by omega), w64 (by omega) (by omega), bytes_drop s i (by omega), List.flatMap_cons, show (i : Int) + 1 = ((i + 1 : Nat) : Int) by omega]
    generalize bt s (i : Int) = b
    simp only [Option.bind_some, List.length_cons, List.length_nil]
    by_cases h1 : b = 92
    · rw [if_pos h1, if_pos (by omega), step _ (by simp), h1]; rfl
    · rw [if_neg h1]
      by_cases h2 : b = 10
      · rw [if_pos h2, if_pos (by omega), step _ (by simp), h2]; rfl
      · rw [if_neg h2]
        by_cases h3 : b = 9
        · rw [if_pos h3, if_pos (by omega), step _ (by simp), h3]; rfl
        · rw [if_neg h3]
          by_cases h4 : b = 13
          · rw [if_pos h4, if_pos (by omega), step _ (by simp), h4]; rfl
          · rw [if_neg h4]
            by_cases h5 : b = 8
            · rw [if_pos h5, if_pos (by omega), step _ (by simp), h5]; rfl
            · rw [if_neg h5]
              by_cases h6 : b = 0
              · rw [if_pos h6, if_pos (by omega), step _ (by simp), h6]; rfl
              · rw [if_neg h6, if_pos (by omega), step _ (by simp), esc1_none b h1 h2 h3 h4 h5 h6]
theorem impl_escaped_ok (s : ByteArray) (hs : s.size ≤ 1000000000000) (k : Nat) (hk : s.size + 1 ≤ k) : impl_escaped.f k s = some (esM s) := by
  unfold impl_escaped.f
  have := impl_escaped_lp s hs s.size 0 [] k (by omega) (by simp only [List.length_nil]; omega) hk
  rw [show ((0 : Nat) : Int) = 0 from rfl] at this
  rw [this, List.drop_zero, List.nil_append]
  rfl

theorem impl_decimal_l0 (d : Nat) : ∀ (k : Nat) (n : Int) (out : ByteArray), 0 ≤ n → n ≤ d → d < k → 1 ≤ out.size → out.size + d ≤ 4611686018427387904 →
    impl_decimal.l0 k n out = some ((if n > 0 then decM n.toNat else ⟨#[]⟩) ++ out) := by
  induction d with
  | zero =>
    intro k n out h0 hd hk ho hs
    obtain ⟨k, rfl⟩ : ∃ m, k = m + 1 := ⟨k - 1, by omega⟩
    have he : ¬ out.toList = ([] : List UInt8) := fun e => by have := tl_nil.mp e; omega
    simp only [impl_decimal.l0]
    rw [if_neg he, if_neg (by omega), if_neg (by omega), nil_app]
  | succ d ih =>
    intro k n out h0 hd hk ho hs
    obtain ⟨k, rfl⟩ : ∃ m, k = m + 1 := ⟨k - 1, by omega⟩
    have he : ¬ out.toList = ([] : List UInt8) := fun e => by have := tl_nil.mp e; omega
    simp only [impl_decimal.l0]
    rw [if_neg he]
    by_cases h : n > 0
    · rw [if_pos h, if_pos h]
      simp only [Option.bind_some]
      rw [Int.tdiv_eq_ediv_of_nonneg h0, Int.tmod_eq_emod_of_nonneg h0, w64 (n := n / 10) (by omega) (by omega), w64 (n := 48 + n % 10) (by omega) (by omega)]
      have hz : (strOfNums [(48 + n % 10) % 256]).size = 1 := by rw [son_size]; rfl
      rw [if_pos (by omega), ih k (n / 10) _ (by omega) (by omega) (by omega) (by rw [size_app]; omega) (by rw [size_app]; omega)]
      rw [← app_assoc]
      congr 2
      have e : strOfNums [(48 + n % 10) % 256] = digC ((n.toNat % 10 : Nat) : Int) := by
        unfold digC; rw [show (48 + n % 10) % 256 = 48 + ((n.toNat % 10 : Nat) : Int) by omega]
      rw [e]
      by_cases h9 : n < 10
      · rw [if_neg (by omega), nil_app, decM_small (by omega)]
        rw [show n.toNat % 10 = n.toNat by omega]
      · rw [if_pos (by omega), decM_big (n := n.toNat) (by omega)]
        rw [show (n / 10).toNat = n.toNat / 10 by omega]
    · rw [if_neg h, if_neg h, nil_app]
theorem impl_decimal_ok (n : Int) (h0 : 0 ≤ n) (h1 : n ≤ 4294967295) (k : Nat) (hk : 8589934600 ≤ k) : impl_decimal.f k n = some (decM n.toNat) := by
  obtain ⟨k, rfl⟩ : ∃ m, k = m + 1 := ⟨k - 1, by omega⟩
  unfold impl_decimal.f
  simp only [impl_decimal.l0]
  rw [if_pos (tl_nil.mpr rfl)]
  simp only [Option.bind_some]
  rw [Int.tdiv_eq_ediv_of_nonneg h0, Int.tmod_eq_emod_of_nonneg h0, w64 (n := n / 10) (by omega) (by omega), w64 (n := 48 + n % 10) (by omega) (by omega)]
  have hz : (strOfNums [(48 + n % 10) % 256]).size = 1 := by rw [son_size]; rfl
  rw [if_pos (by rw [hz, size_none]; omega), app_nil, impl_decimal_l0 (n / 10).toNat k _ _ (by omega) (by omega) (by omega) (by omega) (by omega)]
  have e : strOfNums [(48 + n % 10) % 256] = digC ((n.toNat % 10 : Nat) : Int) := by
    unfold digC; rw [show (48 + n % 10) % 256 = 48 + ((n.toNat % 10 : Nat) : Int) by omega]
  rw [e]
  by_cases h9 : n < 10
  · rw [if_neg (by omega), nil_app, decM_small (by omega)]
    rw [show n.toNat % 10 = n.toNat by omega]
  · rw [if_pos (by omega), decM_big (n := n.toNat) (by omega)]
    rw [show (n / 10).toNat = n.toNat / 10 by omega]

theorem impl_NumText_ok (n : Int) (k : Nat) (hk : 8589934600 ≤ k) : impl_NumText.f k n = some (numM n) := by
  simp only [impl_NumText.f, impl_within_ok, Option.bind_some, decide_eq_true_eq]
  unfold numM
  by_cases h : 0 ≤ n ∧ n ≤ 4294967295
  · rw [if_pos h, if_pos h, impl_decimal_ok n h.1 h.2 k hk]; rfl
  · rw [if_neg h, if_neg h]

theorem marks (style : Int) (h1 : 1 ≤ style) (h2 : style ≤ 5) : (⟨#[58, 39, 34, 124, 62]⟩ : ByteArray).extract (style - 1).toNat style.toNat = (⟨#[32, 58, 39, 34, 124, 62]⟩ : ByteArray).extract style.toNat (style + 1).toNat := by
  obtain h | h | h | h | h : style = 1 ∨ style = 2 ∨ style = 3 ∨ style = 4 ∨ style = 5 := by omega
  all_goals (subst h; exact bext (by rfl))
theorem impl_EventText_j1 (x y : ByteArray) (hx : x.size ≤ 100) (hy : y.size ≤ 100) (kind style : Int) (flag : Bool) (text anchor tag : ByteArray) (at_ code : Int) (ha : anchor.size ≤ 1048576) (hg : tag.size ≤ 1048576) (k : Nat) (hk : 1 ≤ k) :
    impl_EventText.j1 k x y kind style flag text anchor tag at_ code = some (if style = 6 then (x ++ y) ++ prM anchor tag else x ++ prM anchor tag) := by
  obtain ⟨k, rfl⟩ : ∃ m, k = m + 1 := ⟨k - 1, by omega⟩
  have hp := prM_size anchor tag
  rw [impl_EventText.j1, impl_marked_ok kind style flag text anchor tag at_ code (by omega) (by omega)]
  simp only [Option.bind_some, app_nil]
  by_cases h : style = 6
  · rw [if_pos h, if_pos h, if_pos (by omega), if_pos (by rw [size_app]; omega)]
  · rw [if_neg h, if_neg h, if_pos (by omega), if_pos (by omega)]
theorem impl_EventText_ok (kind style : Int) (flag : Bool) (text anchor tag : ByteArray) (at_ code : Int) (ht : text.size ≤ 1048576) (ha : anchor.size ≤ 1048576) (hg : tag.size ≤ 1048576) (k : Nat) (hk : 8589934700 ≤ k) (hk1 : text.size + anchor.size + 110 ≤ k) :
    impl_EventText.f k kind style flag text anchor tag at_ code = some (etM kind style flag text anchor tag at_ code) := by
  have hp := prM_size anchor tag
  have he := esM_size text
  have hn1 := numM_size code
  have hn2 := numM_size at_
  unfold impl_EventText.f etM
  rw [impl_EventOk_ok kind style flag text anchor tag at_ code k (by omega)]
  obtain ⟨k, rfl⟩ : ∃ m, k = m + 1 := ⟨k - 1, by omega⟩
  simp only [Option.bind_some]
  by_cases hv : evM kind style flag text anchor tag at_ code = true
  · rw [if_pos hv, if_pos hv]
    by_cases h1 : kind = 1
    · rw [if_pos h1, if_pos h1]
    · rw [if_neg h1, if_neg h1]
      by_cases h2 : kind = 2
      · rw [if_pos h2, if_pos h2]; split <;> rfl
      · rw [if_neg h2, if_neg h2]
        by_cases h3 : kind = 3
        · rw [if_pos h3, if_pos h3, show (kind == 3) = true by simpa using h3, impl_EventText.j0, if_pos rfl, if_neg (by omega), impl_EventText_j1 _ _ (by decide) (by decide) _ _ _ _ _ _ _ _ ha hg k (by omega)]
          rfl
        · rw [if_neg h3, if_neg h3]
          by_cases h4 : kind = 4
          · rw [if_pos h4, show (kind == 4) = true by simpa using h4, impl_EventText.j0, if_pos rfl, if_pos h4, impl_EventText_j1 _ _ (by decide) (by decide) _ _ _ _ _ _ _ _ ha hg k (by omega)]
            rfl
          · rw [if_neg h4, show (kind == 4) = false by simpa using h4, impl_EventText.j0, if_neg (by decide)]
            simp only [impl_marked_ok kind style flag text anchor tag at_ code (by omega) (by omega), impl_escaped_ok text (by omega) k (by omega), impl_NumText_ok _ k (by omega), Option.bind_some]
            by_cases h5 : kind = 5
            · obtain ⟨s1, s2⟩ := evP_style hv h5
              have h61 : (⟨#[61, 86, 65, 76]⟩ : ByteArray).size = 4 := rfl
              have h32 : (⟨#[32]⟩ : ByteArray).size = 1 := rfl
              have hx := ext_size (⟨#[32, 58, 39, 34, 124, 62]⟩ : ByteArray) style.toNat (style + 1).toNat
              rw [show (⟨#[32, 58, 39, 34, 124, 62]⟩ : ByteArray).size = 6 from rfl] at hx
              rw [if_pos h5, if_pos h5, w64 (by omega) (by omega), marks style s1 s2, if_pos (by omega), if_pos (by rw [size_app, h61]; omega), if_pos (by omega), if_pos (by omega), if_pos (by omega), if_pos (by simp only [size_app, h61, h32]; omega), if_pos (by simp only [size_app, h61, h32]; omega)]
            · rw [if_neg h5, if_neg h5]
              by_cases h6 : kind = 6
              · rw [if_pos h6, if_pos h6, if_pos (by omega)]
              · rw [if_neg h6, if_neg h6]
                by_cases h7 : kind = 7
                · rw [if_pos h7, if_pos h7]
                · rw [if_neg h7, if_neg h7]
                  by_cases h8 : kind = 8
                  · rw [if_pos h8, if_pos h8]; split <;> rfl
                  · rw [if_neg h8, if_neg h8]
                    by_cases h9 : kind = 9
                    · rw [if_pos h9, if_pos h9]
                    · have h33 : (⟨#[33, 70, 65, 85, 76, 84, 32]⟩ : ByteArray).size = 7 := rfl
                      have h32 : (⟨#[32]⟩ : ByteArray).size = 1 := rfl
                      rw [if_neg h9, if_neg h9, if_pos (by omega), if_pos (by rw [size_app, h33]; omega), if_pos (by simp only [size_app, h33, h32]; omega)]
  · rw [if_neg hv, if_neg hv]

theorem impl_EventsText_l0 (l : List S29) (hl : l.length ≤ 1048576) (hb : ∀ a ∈ l, a.f3.size ≤ 1048576 ∧ a.f4.size ≤ 1048576 ∧ a.f5.size ≤ 1048576) (d : Nat) : ∀ (k : Nat) (i : Int) (acc : List Int), 0 ≤ i → (l.length : Int) - i = d → acc.length + 13 * totI (l.drop i.toNat) + d * 61 ≤ 4000000000000 → d + 8600000000 < k →
    impl_EventsText.l0 k acc l (l.length : Int) i = some (strOfNums (acc ++ etsM (l.drop i.toNat))) := by
  induction d with
  | zero =>
    intro k i acc h0 hd ha hk
    obtain ⟨k, rfl⟩ : ∃ m, k = m + 1 := ⟨k - 1, by omega⟩
    rw [impl_EventsText.l0, if_neg (by omega), drop_end _ _ (by omega)]
    unfold etsM
    rw [List.flatMap_nil, List.append_nil]
  | succ d ih =>
    intro k i acc h0 hd ha hk
    obtain ⟨k, rfl⟩ : ∃ m, k = m + 1 := ⟨k - 1, by omega⟩
    have hi : i < (l.length : Int) := by omega
    obtain ⟨b1, b2, b3⟩ := hb _ (List.mem_of_getElem? (getD_some z29 l i h0 hi))
    rw [impl_EventsText.l0, if_pos hi, if_pos h0, if_pos hi, w64 (n := i + 1) (by omega) (by omega)]
    rw [drop_at z29 l i h0 hi] at ha ⊢
    have b1' : (rd_T29 l i).f3.size ≤ 1048576 := b1
    have b2' : (rd_T29 l i).f4.size ≤ 1048576 := b2
    have b3' : (rd_T29 l i).f5.size ≤ 1048576 := b3
    have ha' : acc.length + 13 * ((rd_T29 l i).f3.size + (rd_T29 l i).f4.size + (rd_T29 l i).f5.size + totI (l.drop (i + 1).toNat)) + (d + 1) * 61 ≤ 4000000000000 := ha
    show _ = some (strOfNums (acc ++ etsM (rd_T29 l i :: l.drop (i + 1).toNat)))
    clear ha b1 b2 b3
    generalize rd_T29 l i = x at b1' b2' b3' ha'
    have hz := etM_size x.f0 x.f1 x.f2 x.f3 x.f4 x.f5 x.f6 x.f7
    rw [impl_EventText_ok x.f0 x.f1 x.f2 x.f3 x.f4 x.f5 x.f6 x.f7 b1' b2' b3' k (by omega) (by omega), Option.bind_some]
    rw [show etM x.f0 x.f1 x.f2 x.f3 x.f4 x.f5 x.f6 x.f7 = evT x from rfl] at hz ⊢
    have hlen : (acc ++ bytesOf (evT x)).length = acc.length + (evT x).size := by rw [List.length_append, bo_len]
    rw [if_pos (by omega), Option.bind_some, if_pos (by rw [hlen]; omega)]
    rw [ih k (i + 1) (acc ++ bytesOf (evT x) ++ [10]) (by omega) (by omega) (by rw [List.length_append, hlen, List.length_singleton]; omega) (by omega)]
    unfold etsM
    rw [List.flatMap_cons, List.append_assoc, List.append_assoc, List.append_assoc]
theorem impl_EventsText_ok (l : List S29) (hl : l.length ≤ 1048576) (hb : ∀ a ∈ l, a.f3.size ≤ 1048576 ∧ a.f4.size ≤ 1048576 ∧ a.f5.size ≤ 1048576) (ht : totI l ≤ 1048576) (k : Nat) (hk : l.length + 8600000000 < k) : impl_EventsText.f k l = some (strOfNums (etsM l)) := by
  unfold impl_EventsText.f
  have := impl_EventsText_l0 l hl hb l.length k 0 [] (by omega) (by omega) (by rw [show (0 : Int).toNat = 0 from rfl, List.drop_zero, List.length_nil]; omega) hk
  rw [show (0 : Int).toNat = 0 from rfl, List.drop_zero, List.nil_append] at this
  exact this

theorem laws_eqEventS_l0 (l : List S29) (hl : l.length ≤ 1048576) (d : Nat) : ∀ (k : Nat) (i : Int), 0 ≤ i → (l.length : Int) - i = d → d < k → laws_eqEventS.l0 k l l i = some true := by
  induction d with
  | zero =>
    intro k i h0 hd hk
    obtain ⟨k, rfl⟩ : ∃ m, k = m + 1 := ⟨k - 1, by omega⟩
    rw [laws_eqEventS.l0, if_neg (by omega)]
  | succ d ih =>
    intro k i h0 hd hk
    obtain ⟨k, rfl⟩ : ∃ m, k = m + 1 := ⟨k - 1, by omega⟩
    rw [laws_eqEventS.l0, if_pos (by omega), if_pos h0, if_pos (by omega)]
    unfold laws_eqEvent.f
    rw [if_pos rfl, if_pos rfl, if_neg (by simp), if_pos rfl, if_pos rfl, if_pos rfl, if_pos rfl, if_pos rfl, Option.bind_some, if_pos rfl, w64 (by omega) (by omega)]
    exact ih k (i + 1) (by omega) (by omega) (by omega)
theorem laws_eqEventS_ok (l : List S29) (hl : l.length ≤ 1048576) (k : Nat) (hk : l.length < k) : laws_eqEventS.f k l l = some true := by
  unfold laws_eqEventS.f
  rw [if_pos rfl]
  exact laws_eqEventS_l0 l hl l.length k 0 (by omega) (by omega) hk

theorem tot_e (l : List S26) : totI (l.map cvE) = totE l := by
  induction l with
  | nil => rfl
  | cons x r ih =>
    show x.f3.size + x.f4.size + x.f5.size + totI (r.map cvE) = x.f3.size + x.f4.size + x.f5.size + totE r
    rw [ih]
theorem mem_tot (l : List S29) : ∀ a ∈ l, a.f3.size + a.f4.size + a.f5.size ≤ totI l := by
  induction l with
  | nil => intro a h; cases h
  | cons x r ih =>
    intro a h
    show _ ≤ x.f3.size + x.f4.size + x.f5.size + totI r
    rcases List.mem_cons.mp h with rfl | h
    · omega
    · have := ih a h
      omega
theorem FnExactEventsText : ∀ (l0 : List (S26)), l0.length ≤ 9223372036854775807 → (∀ a ∈ l0, ((Lit.int .i64 a.f0).wf = true) ∧ ((Lit.int .i64 a.f1).wf = true) ∧ (True) ∧ (a.f3.size ≤ 9223372036854775807) ∧ (a.f4.size ≤ 9223372036854775807) ∧ (a.f5.size ≤ 9223372036854775807) ∧ ((Lit.int .i64 a.f6).wf = true) ∧ (Lit.int .i64 a.f7).wf = true) → ∃ k, laws_FnExactEventsText.f k l0 = some true := by
  intro l hl hb
  obtain ⟨k, hk⟩ : ∃ k : Nat, l.length + 8600000100 ≤ k := ⟨_, Nat.le_refl _⟩
  obtain ⟨r, hr, hs⟩ := laws_szEventS_ok l hl (fun a h => ⟨(hb a h).2.2.2.1, (hb a h).2.2.2.2.1, (hb a h).2.2.2.2.2.1⟩) k (by omega)
  refine ⟨k, ?_⟩
  simp only [laws_FnExactEventsText.f, hr, Option.bind_some]
  by_cases hn : r < 0
  · rw [if_pos hn]
  · have hs' := hs.resolve_left hn
    rw [if_neg hn]
    have hm : (l.map cvE).length = l.length := List.length_map _
    have ht := tot_e l
    have hb' : ∀ a ∈ l.map cvE, a.f3.size ≤ 1048576 ∧ a.f4.size ≤ 1048576 ∧ a.f5.size ≤ 1048576 := fun a h => by have := mem_tot _ a h; omega
    simp only [laws_toEventS_ok l (by omega) k (by omega), spec_EventsText_ok _ (by omega : (l.map cvE).length ≤ 1048576) hb' (by omega) k (by omega), impl_EventsText_ok _ (by omega : (l.map cvE).length ≤ 1048576) hb' (by omega) k (by omega), laws_eqEventS_ok _ (by omega : (l.map cvE).length ≤ 1048576) k (by omega), Option.bind_some, if_true]

end Go.Proofs.Ytacmlggiklkbiaa.Pure
