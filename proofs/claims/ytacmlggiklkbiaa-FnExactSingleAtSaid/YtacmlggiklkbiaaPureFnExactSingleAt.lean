/- For every text of at most 2^20 bytes and every place, the program's SingleAt answers as the reference's does; no condition beyond the statement's own. -/
import Derived.Test.YtacmlggiklkbiaaPFnExactSingleAtx0
import Derived.Test.YtacmlggiklkbiaaPFnExactSingleAtx1
import Derived.Test.YtacmlggiklkbiaaPFnExactSingleAtx2
import Derived.Test.YtacmlggiklkbiaaPFnExactSingleAtx3
import Derived.Test.YtacmlggiklkbiaaPFnExactSingleAtx4
import Derived.Test.YtacmlggiklkbiaaPFnExactSingleAtx5
import Derived.Test.YtacmlggiklkbiaaLst
import Derived.Test.YtacmlggiklkbiaaMine
import Derived.Test.YtacmlggiklkbiaaQuo
import Derived.Test.YtacmlggiklkbiaaTxt
namespace Go.Proofs.Ytacmlggiklkbiaa.Pure
open Go.RowKit Go.Proofs.Ytacmlggiklkbiaa.PFnExactSingleAt Go.Proofs.YtacmlggiklkbiaaW.PrintWords Go.Proofs.YtacmlggiklkbiaaW.PrintLast Go.Proofs.YtacmlggiklkbiaaW.PrintMore Go.Proofs.Ytacmlggiklkbiaa.Mine

def pr44 (x : S44) : ByteArray × Bool := (x.f0, x.f1)
theorem spec_l01P_ok (s : ByteArray) (p : Int) : spec_l01P.f s p = some (spotM s p) := by
  unfold spec_l01P.f spotM
  split
  · rfl
  · split <;> rfl

theorem spec_FoldFlow_l1 (l l2 : List S44) (t : ByteArray) (g : Bool) (i len : Int) (n : Nat) : ∀ (k : Nat) (out : ByteArray), (out.size : Int) + n + t.size ≤ 70368744177664 →
    spec_FoldFlow.l1 (k + n + 1) l out (n : Int) l2 len i t g = spec_FoldFlow.l0 k l (out ++ nl n ++ t) 0 g l2 len (wrap64 (i + 1)) := by
  induction n with
  | zero =>
    intro k out hb
    rw [show k + 0 + 1 = k + 1 by omega, spec_FoldFlow.l1, if_neg (by omega), if_pos (by omega), nl_zero, app_nil]
    rfl
  | succ n ih =>
    intro k out hb
    have hz : (⟨#[10]⟩ : ByteArray).size = 1 := rfl
    rw [show k + (n + 1) + 1 = (k + n + 1) + 1 by omega, spec_FoldFlow.l1, if_pos (by omega), if_pos (by omega), show (((n + 1 : Nat) : Int) - 1) = (n : Int) by omega, w64 (by omega) (by omega), ih k _ (by rw [size_app, hz]; omega)]
    rw [show (⟨#[10]⟩ : ByteArray) = nl 1 from rfl, app_assoc out (nl 1) (nl n), nl_add, show 1 + n = n + 1 by omega]
theorem spec_FoldFlow_l0 (l : List S44) (hl : l.length ≤ 4194304) (d : Nat) : ∀ (k : Nat) (out : ByteArray) (glue : Bool) (many i : Int), 1 ≤ i → (l.length : Int) - i = d → 0 ≤ many → 10 * (d : Int) + many + 10 ≤ k →
    (out.size : Int) + many + totP ((l.drop i.toNat).map pr44) + 2 * d ≤ 70368744177664 →
    spec_FoldFlow.l0 k l out many glue l (l.length : Int) i = some (ffN out glue many.toNat ((l.drop i.toNat).map pr44)) := by
  induction d with
  | zero =>
    intro k out glue many i h0 hd hm hk hb
    obtain ⟨k, rfl⟩ : ∃ m, k = m + 1 := ⟨k - 1, by omega⟩
    rw [spec_FoldFlow.l0, if_neg (by omega), drop_end _ _ (by omega)]
    rfl
  | succ d ih =>
    intro k out glue many i h0 hd hm hk hb
    obtain ⟨k, rfl⟩ : ∃ m, k = m + 5 := ⟨k - 5, by omega⟩
    have hi : i < (l.length : Int) := by omega
    have hdr : l.drop i.toNat = rd_T44 l i :: l.drop (i + 1).toNat := drop_at z44 l i (by omega) hi
    have hlast : ((l.drop (i + 1).toNat).map pr44 = []) ↔ ¬ i < (l.length : Int) - 1 := by
      rw [List.map_eq_nil_iff, List.drop_eq_nil_iff]; omega
    rw [hdr, List.map_cons] at hb ⊢
    have ei : wrap64 (i + 1) = i + 1 := w64 (by omega) (by omega)
    have el : wrap64 ((l.length : Int) - 1) = (l.length : Int) - 1 := w64 (by omega) (by omega)
    rw [spec_FoldFlow.l0, if_pos hi, if_pos (by omega), if_pos hi, if_pos (by omega), el]
    generalize rd_T44 l i = x at hb ⊢
    have hpx : pr44 x = (x.f0, x.f1) := rfl
    rw [hpx] at hb ⊢
    simp only [totP] at hb
    simp only [ffN]
    have fin : ∀ (m : Nat) (o : ByteArray) (k' : Nat), m ≤ many.toNat → o.size + m ≤ out.size + many.toNat + 1 → 10 * (d : Int) + m + 11 ≤ k' →
        spec_FoldFlow.l1 k' l o (m : Int) l (l.length : Int) i x.f0 x.f1 = some (ffN (o ++ nl m ++ x.f0) x.f1 0 ((l.drop (i + 1).toNat).map pr44)) := fun m o k' hm1 hs hk' => by
      obtain ⟨k'', rfl⟩ : ∃ q, k' = q + m + 1 := ⟨k' - m - 1, by omega⟩
      rw [spec_FoldFlow_l1 l l _ _ i _ m k'' o (by omega), ei]
      exact ih k'' _ x.f1 0 (i + 1) (by omega) (by omega) (by omega) (by omega) (by rw [size_app, size_app, nl_size]; omega)
    have jf : spec_FoldFlow.j1 (k + 4) l out many glue i l (l.length : Int) i false x.f0 x.f1 = some (ffN (out ++ ffSep glue many.toNat ++ x.f0) x.f1 0 ((l.drop (i + 1).toNat).map pr44)) := by
      rw [spec_FoldFlow.j1, if_neg (by decide), if_pos (by omega)]
      unfold ffSep
      by_cases hz : many = 0
      · rw [if_pos hz, if_neg (show ¬ many.toNat > 0 by omega)]
        cases glue with
        | true =>
          rw [show (!true) = false from rfl, spec_FoldFlow.j2, if_neg (by decide), spec_FoldFlow.j3, if_pos rfl, app_nil]
          have := fin 0 out (k + 1) (by omega) (by omega) (by omega)
          rw [nl_zero, app_nil] at this
          rw [hz]
          exact this
        | false =>
          rw [show (!false) = true from rfl, spec_FoldFlow.j2, if_pos rfl, if_pos (by omega), spec_FoldFlow.j3, if_neg (show ¬ (false = true) by decide)]
          have := fin 0 (out ++ (⟨#[32]⟩ : ByteArray)) (k + 1) (by omega) (by rw [size_app]; show out.size + 1 + 0 ≤ _; omega) (by omega)
          rw [nl_zero, app_nil] at this
          rw [hz]
          exact this
      · rw [if_neg hz, spec_FoldFlow.j2, if_neg (by decide), spec_FoldFlow.j3, if_pos (show many.toNat > 0 by omega)]
        have := fin many.toNat out (k + 1) (by omega) (by omega) (by omega)
        rw [show (many.toNat : Int) = many by omega] at this
        exact this
    by_cases hL : i < (l.length : Int) - 1
    · rw [if_pos hL]
      by_cases hx : x.f0.size = 0
      · rw [if_pos (tl_nil.mpr hx)]
        cases hg : x.f1 with
        | true =>
          rw [show (!true) = false from rfl, if_neg (show ¬ (x.f0.size = 0 ∧ true = false ∧ ¬ (l.drop (i + 1).toNat).map pr44 = []) by simp)]
          rw [hg] at jf
          exact jf
        | false =>
          rw [show (!false) = true from rfl, spec_FoldFlow.j1, if_pos rfl, if_pos (show x.f0.size = 0 ∧ false = false ∧ ¬ (l.drop (i + 1).toNat).map pr44 = [] from ⟨hx, rfl, fun c => (hlast.mp c) hL⟩), ei, w64 (n := many + 1) (by omega) (by omega)]
          have := ih (k + 3) out glue (many + 1) (i + 1) (by omega) (by omega) (by omega) (by omega) (by omega)
          rw [show (many + 1).toNat = many.toNat + 1 by omega] at this
          exact this
      · rw [if_neg (fun c => hx (tl_nil.mp c)), if_neg (show ¬ (x.f0.size = 0 ∧ x.f1 = false ∧ ¬ (l.drop (i + 1).toNat).map pr44 = []) from fun c => hx c.1)]
        exact jf
    · rw [if_neg hL, if_neg (show ¬ (x.f0.size = 0 ∧ x.f1 = false ∧ ¬ (l.drop (i + 1).toNat).map pr44 = []) from fun c => c.2.2 (hlast.mpr hL))]
      exact jf
theorem spec_FoldFlow_ok (l : List S44) (hl : l.length ≤ 4194304) (hb : totP (l.map pr44) ≤ 35184372088832) (k : Nat) (hk : 10 * l.length + 20 ≤ k) : spec_FoldFlow.f k l = some (foldFlowM (l.map pr44)) := by
  unfold spec_FoldFlow.f
  cases l with
  | nil =>
    obtain ⟨k, rfl⟩ : ∃ m, k = m + 1 := ⟨k - 1, by omega⟩
    rw [spec_FoldFlow.l0, if_neg (by simp)]
    rfl
  | cons x r =>
    obtain ⟨k, rfl⟩ : ∃ m, k = m + 6 := ⟨k - 6, by omega⟩
    have hpx : pr44 x = (x.f0, x.f1) := rfl
    rw [List.map_cons, hpx] at hb
    simp only [totP] at hb
    have hrd : rd_T44 (x :: r) 0 = x := rfl
    rw [spec_FoldFlow.l0, if_pos (by simp <;> omega), if_pos (by omega), if_pos (by simp <;> omega), if_neg (by omega), hrd, spec_FoldFlow.j1, if_neg (by decide), if_neg (by omega), spec_FoldFlow.j2, if_neg (by decide), spec_FoldFlow.j3]
    have hl1 := spec_FoldFlow_l1 (x :: r) (x :: r) x.f0 x.f1 0 ((x :: r).length : Int) 0 (k + 1) (⟨#[]⟩ : ByteArray) (by rw [size_none]; omega)
    rw [show k + 1 + 0 + 1 = k + 2 by omega, nl_zero, nil_app, nil_app, w64 (by omega) (by omega)] at hl1
    have := spec_FoldFlow_l0 (x :: r) hl r.length (k + 1) x.f0 x.f1 0 1 (by omega) (by simp) (by omega) (by simp at hk <;> omega) (by
      rw [show (1 : Int).toNat = 1 from rfl, List.drop_one, List.tail_cons]; simp at hl; omega)
    rw [show (1 : Int).toNat = 1 from rfl, List.drop_one, List.tail_cons] at this
    exact hl1.trans this

theorem spec_l07Cut_l0 (l : List Int) (hl : l.length ≤ 140737488351232) (m : Nat) (n : Nat) : ∀ k : Nat, n ≤ l.length → m ≤ n → n < k → spec_l07Cut.l0 k (l.take n) (m : Int) = some (strOfNums (l.take (trimN m l n))) := by
  induction n with
  | zero =>
    intro k hn hm hk
    obtain ⟨k, rfl⟩ : ∃ j, k = j + 1 := ⟨k - 1, by omega⟩
    rw [spec_l07Cut.l0, if_neg (by simp)]
    rfl
  | succ n ih =>
    intro k hn hm hk
    obtain ⟨k, rfl⟩ : ∃ j, k = j + 1 := ⟨k - 1, by omega⟩
    have hlen : (l.take (n + 1)).length = n + 1 := by rw [List.length_take]; omega
    have hlenI : ((l.take (n + 1)).length : Int) = (n : Int) + 1 := by omega
    rw [spec_l07Cut.l0, trimN, hlenI, show (n : Int) + 1 - 1 = (n : Int) by omega, w64 (by omega) (by omega), rd_take l n hn]
    by_cases hmn : m < n + 1
    · rw [if_pos (by omega), if_pos (by omega), if_pos (by omega)]
      have ht : (l.take (n + 1)).take (n : Int).toNat = l.take n := by rw [List.take_take]; congr 1; omega
      by_cases h32 : rd l (n : Int) = 32
      · rw [if_pos h32, if_pos (by omega), ht, ih k (by omega) (by omega) (by omega), if_pos ⟨hmn, by simp [whB, h32]⟩]
      · rw [if_neg h32]
        by_cases h9 : rd l (n : Int) = 9
        · rw [if_pos h9, if_pos (by omega), ht, ih k (by omega) (by omega) (by omega), if_pos ⟨hmn, by simp [whB, h9]⟩]
        · rw [if_neg h9, if_neg (fun q => by have := q.2; simp [whB, h32, h9] at this)]
    · rw [if_neg (by omega), if_neg (by omega)]
theorem spec_l07Cut_ok (l : List Int) (hl : l.length ≤ 140737488351232) (m : Nat) (hm : m ≤ l.length) (k : Nat) (hk : l.length < k) : spec_l07Cut.f k l (m : Int) = some (strOfNums (l.take (trimN m l l.length))) := by
  have h := spec_l07Cut_l0 l hl m l.length k (Nat.le_refl _) hm hk
  rw [List.take_length] at h
  exact h

theorem spec_LineAt_l0 (s : ByteArray) (hs : s.size ≤ 140737488351232) (d : Nat) : ∀ (k : Nat) (i : Int), 0 ≤ i → i ≤ s.size → i ≤ d → d < k →
    spec_LineAt.l0 k s i = some (lastM 10 s i) := by
  induction d with
  | zero =>
    intro k i h0 h1 hd hk
    obtain ⟨k, rfl⟩ : ∃ m, k = m + 1 := ⟨k - 1, by omega⟩
    simp (disch := omega) only [spec_LineAt.l0, if_neg, lastM_neg]
    congr 1; omega
  | succ d ih =>
    intro k i h0 h1 hd hk
    obtain ⟨k, rfl⟩ : ∃ m, k = m + 1 := ⟨k - 1, by omega⟩
    by_cases hi : 0 < i
    · by_cases hb : bt s (i - 1) = 10
      · simp (disch := omega) only [spec_LineAt.l0, if_pos, w64, lastM_hit]
      · simp (disch := omega) only [spec_LineAt.l0, if_pos, if_neg, w64, lastM_prev]
        exact ih k (i - 1) (by omega) (by omega) (by omega) (by omega)
    · simp (disch := omega) only [spec_LineAt.l0, if_neg, lastM_neg]
      congr 1; omega
theorem spec_LineAt_ok (s : ByteArray) (p : Int) (hs : s.size ≤ 140737488351232) (k : Nat) (hk : s.size < k) : spec_LineAt.f k s p = some (lineM s p) := by
  have h0 := spotM_lo s p
  have h1 := spotM_hi s p
  simp only [spec_LineAt.f, spec_l01P_ok, Option.bind_some]
  exact spec_LineAt_l0 s hs s.size k _ h0 h1 h1 hk

theorem spec_l03White_in (s : ByteArray) (p : Int) (h0 : 0 ≤ p) (h1 : p < s.size) : spec_l03White.f s p = some (whB (bt s p)) := by
  simp (disch := omega) only [spec_l03White.f, if_pos]
  by_cases h : bt s p = 32
  · rw [if_pos h, whB_iff.mpr (.inl h)]
  · rw [if_neg h]
    by_cases h9 : bt s p = 9
    · rw [h9]; rfl
    · rw [whB_not.mpr (by omega)]; simp [h9]
theorem spec_l03White_end (s : ByteArray) (p : Int) (h1 : (s.size : Int) ≤ p) : spec_l03White.f s p = some false := by
  simp (disch := omega) only [spec_l03White.f, if_neg]
theorem spec_l03White_ok (s : ByteArray) (p : Int) (h0 : 0 ≤ p) : spec_l03White.f s p = some (whB (byteM s p)) := by
  by_cases h : p < s.size
  · rw [spec_l03White_in s p h0 h, byteM_in h0 h]
  · rw [spec_l03White_end s p (by omega), byteM_end (by omega)]; rfl

theorem spec_l03Break_ok (s : ByteArray) (p : Int) (h0 : 0 ≤ p) : spec_l03Break.f s p = some (brB (byteM s p)) := by
  unfold spec_l03Break.f
  by_cases h : p < s.size
  · rw [if_neg (by omega), if_pos h0, if_pos h, byteM_in h0 h]
    have := bt_lo s p
    by_cases h10 : bt s p = 10
    · rw [h10]; rfl
    · rw [brB_not.mpr (by omega)]; simp [h10]
  · rw [if_pos (by omega), byteM_end (by omega)]; rfl

theorem spec_l03Gap_ok (s : ByteArray) (p : Int) (h0 : 0 ≤ p) : spec_l03Gap.f s p = some (gapB (byteM s p)) := by
  simp only [spec_l03Gap.f, spec_l03White_ok s p h0, spec_l03Break_ok s p h0, Option.bind_some, gapB_eq]
  cases whB (byteM s p) <;> rfl

theorem spec_MarkAt_ok (s : ByteArray) (p : Int) (hs : s.size ≤ 140737488351232) (k : Nat) (hk : s.size + 1 < k) : spec_MarkAt.f k s p = some (markM s p) := by
  have h0 := spotM_lo s p
  have h1 := spotM_hi s p
  obtain ⟨k, rfl⟩ : ∃ m, k = m + 1 := ⟨k - 1, by omega⟩
  simp (disch := omega) only [spec_MarkAt.f, spec_l01P_ok, spec_LineAt_ok, Option.bind_some, markM]
  generalize spotM s p = q at h0 h1 ⊢
  have jt : spec_MarkAt.j0 (k + 1) s q true = some 0 := by simp only [spec_MarkAt.j0, if_true]
  by_cases hl : lineM s q = q
  · rw [if_pos hl, w64 (by omega) (by omega)]
    by_cases h3 : (s.size : Int) - q < 3
    · rw [if_pos h3, jt, if_neg (by omega)]
    · rw [if_neg h3]
      simp (disch := omega) only [w64, spec_l03Gap_ok, Option.bind_some]
      cases hg : gapB (byteM s (q + 3)) with
      | false => rw [show (!false) = true from rfl, jt, if_neg (by simp)]
      | true =>
        rw [show (!true) = false from rfl, if_pos ⟨hl, by omega, rfl⟩]
        simp (disch := omega) only [spec_MarkAt.j0, Bool.false_eq_true, if_false, w64]
        rw [if_pos h0, if_pos (by omega), if_pos (by omega)]
        split
        · rfl
        · split <;> rfl
  · rw [if_neg hl, jt, if_neg (fun h => hl h.1)]

theorem spec_White_l0 (s : ByteArray) (hs : s.size ≤ 140737488351232) (d : Nat) : ∀ (k : Nat) (i : Int), 0 ≤ i → i ≤ s.size → s.size - i ≤ d → d < k →
    spec_White.l0 k s i = some (upto noWh s i) := by
  induction d with
  | zero =>
    intro k i h0 h1 hd hk
    obtain ⟨k, rfl⟩ : ∃ m, k = m + 1 := ⟨k - 1, by omega⟩
    simp (disch := omega) only [spec_White.l0, spec_l03White_end, Option.bind_some, Bool.false_eq_true, if_false, upto_end]
  | succ d ih =>
    intro k i h0 h1 hd hk
    obtain ⟨k, rfl⟩ : ∃ m, k = m + 1 := ⟨k - 1, by omega⟩
    by_cases hi : i < s.size
    · simp (disch := omega) only [spec_White.l0, spec_l03White_in, Option.bind_some]
      by_cases hb : whB (bt s i) = true
      · rw [if_pos hb, upto_next hi (by simp [noWh, hb]), w64 (by omega) (by omega)]
        exact ih k (i + 1) (by omega) (by omega) (by omega) (by omega)
      · rw [if_neg hb, upto_hit hi (by simpa [noWh] using hb)]
    · simp (disch := omega) only [spec_White.l0, spec_l03White_end, Option.bind_some, Bool.false_eq_true, if_false, upto_end]
theorem spec_White_ok (s : ByteArray) (p : Int) (hs : s.size ≤ 140737488351232) (k : Nat) (hk : s.size < k) : spec_White.f k s p = some (whiteM s p) := by
  have h0 := spotM_lo s p
  have h1 := spotM_hi s p
  simp only [spec_White.f, spec_l01P_ok, Option.bind_some]
  exact spec_White_l0 s hs s.size k _ h0 h1 (by omega) hk

theorem impl_spot_ok (s : ByteArray) (p : Int) : impl_spot.f s p = some (spotM s p) := by
  unfold impl_spot.f; rw [mn_mx_spotM]

theorem impl_byteAt_ok (s : ByteArray) (p : Int) : impl_byteAt.f s p = some (byteM s p) := by
  have h0 := spotM_lo s p
  have h1 := spotM_hi s p
  have h2 := bt_lo s (spotM s p)
  have h3 := bt_hi s (spotM s p)
  simp only [impl_byteAt.f, impl_spot_ok, Option.bind_some]
  unfold byteM
  by_cases h : spotM s p = (s.size : Int)
  · rw [if_pos h, if_pos h]
  · rw [if_neg h, if_neg h, if_pos h0, if_pos (by omega), w64 (by omega) (by omega)]

theorem impl_isWhite_ok (b : Int) : impl_isWhite.f b = some (whB b) := by
  unfold impl_isWhite.f
  by_cases h : b = 32
  · rw [if_pos h, whB_iff.mpr (.inl h)]
  · rw [if_neg h]
    by_cases h9 : b = 9
    · rw [h9]; rfl
    · rw [whB_not.mpr (by omega)]; simp [h9]

theorem bytealg_LastIndexByteString_l0 (s : ByteArray) (c : Int) (hs : s.size ≤ 140737488351232) (d : Nat) : ∀ (k : Nat) (i : Int), -1 ≤ i → i < s.size → i < d → d < k →
    bytealg_LastIndexByteString.l0 k s c i = some (lastM c s (i + 1) - 1) := by
  induction d with
  | zero =>
    intro k i h0 h1 hd hk
    obtain ⟨k, rfl⟩ : ∃ m, k = m + 1 := ⟨k - 1, by omega⟩
    simp (disch := omega) only [bytealg_LastIndexByteString.l0, if_neg, lastM_neg]
    rfl
  | succ d ih =>
    intro k i h0 h1 hd hk
    obtain ⟨k, rfl⟩ : ∃ m, k = m + 1 := ⟨k - 1, by omega⟩
    by_cases hi : 0 ≤ i
    · by_cases hb : bt s i = c
      · have hb' : bt s (i + 1 - 1) = c := by rw [show i + 1 - 1 = i by omega]; exact hb
        rw [lastM_hit (by omega) hb']
        simp (disch := omega) only [bytealg_LastIndexByteString.l0, if_pos]
        congr 1; omega
      · have hb' : ¬ bt s (i + 1 - 1) = c := by rw [show i + 1 - 1 = i by omega]; exact hb
        rw [lastM_prev (by omega) hb']
        simp (disch := omega) only [bytealg_LastIndexByteString.l0, if_pos, if_neg, w64]
        rw [ih k (i - 1) (by omega) (by omega) (by omega) (by omega)]
        rw [show i + 1 - 1 = i - 1 + 1 by omega]
    · simp (disch := omega) only [bytealg_LastIndexByteString.l0, if_neg, lastM_neg]
      rfl
theorem bytealg_LastIndexByteString_ok (s : ByteArray) (c : Int) (hs : s.size ≤ 140737488351232) (k : Nat) (hk : s.size < k) :
    bytealg_LastIndexByteString.f k s c = some (lastM c s s.size - 1) := by
  unfold bytealg_LastIndexByteString.f
  rw [w64 (by omega) (by omega), bytealg_LastIndexByteString_l0 s c hs s.size k _ (by omega) (by omega) (by omega) hk]
  rw [show (s.size : Int) - 1 + 1 = s.size by omega]

theorem strings_LastIndexByte_ok (s : ByteArray) (c : Int) (hs : s.size ≤ 140737488351232) (k : Nat) (hk : s.size < k) :
    strings_LastIndexByte.f k s c = some (lastM c s s.size - 1) := by
  simp (disch := omega) only [strings_LastIndexByte.f, bytealg_LastIndexByteString_ok, Option.bind_some]

theorem impl_LineAt_ok (s : ByteArray) (p : Int) (hs : s.size ≤ 140737488351232) (k : Nat) (hk : s.size < k) : impl_LineAt.f k s p = some (lineM s p) := by
  have h0 := spotM_lo s p
  have h1 := spotM_hi s p
  have hz : (s.extract 0 (spotM s p).toNat).size = (spotM s p).toNat := by rw [size_ext _ _ _ (by omega)]; omega
  have hl := lastM_lo 10 (s.extract 0 (spotM s p).toNat) ((spotM s p).toNat : Int)
  have hm := lastM_hi (c := 10) (s := s.extract 0 (spotM s p).toNat) (p := ((spotM s p).toNat : Int)) (by omega)
  simp only [impl_LineAt.f, impl_spot_ok, Option.bind_some]
  rw [if_pos h0, if_pos h1, strings_LastIndexByte_ok _ _ (by omega) k (by omega), Option.bind_some, hz, w64 (by omega) (by omega)]
  unfold lineM
  rw [show ((spotM s p).toNat : Int) = spotM s p by omega] at *
  rw [show ∀ x : Int, x - 1 + 1 = x by intro x; omega]
  congr 1
  refine lastM_ext fun i a b => ?_
  rw [bt_ext (by omega) a (by omega)]
  congr 1; omega

theorem impl_isBreak_ok (b : Int) : impl_isBreak.f b = some (brB b) := by
  unfold impl_isBreak.f brB
  by_cases h : b = 10
  · simp [h]
  · rw [if_neg h]; simp [h]

theorem impl_gapAt_ok (s : ByteArray) (p : Int) : impl_gapAt.f s p = some (gapB (byteM s p)) := by
  simp only [impl_gapAt.f, impl_byteAt_ok, impl_isWhite_ok, impl_isBreak_ok, Option.bind_some, gapB_eq]
  cases whB (byteM s p) <;> rfl

theorem impl_MarkAt_ok (s : ByteArray) (p : Int) (hs : s.size ≤ 140737488351232) (k : Nat) (hk : s.size + 1 < k) : impl_MarkAt.f k s p = some (markM s p) := by
  have h0 := spotM_lo s p
  have h1 := spotM_hi s p
  obtain ⟨k, rfl⟩ : ∃ m, k = m + 1 := ⟨k - 1, by omega⟩
  simp (disch := omega) only [impl_MarkAt.f, impl_spot_ok, impl_LineAt_ok, Option.bind_some, markM]
  generalize spotM s p = q at h0 h1 ⊢
  have jt : impl_MarkAt.j0 (k + 1) s q true = some 0 := by simp only [impl_MarkAt.j0, if_true]
  by_cases hl : lineM s q = q
  · rw [if_pos hl, w64 (by omega) (by omega)]
    by_cases h3 : (s.size : Int) - q < 3
    · rw [if_pos h3, jt, if_neg (by omega)]
    · rw [if_neg h3]
      simp (disch := omega) only [w64, impl_gapAt_ok, Option.bind_some]
      cases hg : gapB (byteM s (q + 3)) with
      | false => rw [show (!false) = true from rfl, jt, if_neg (by simp)]
      | true =>
        rw [show (!true) = false from rfl, if_pos ⟨hl, by omega, rfl⟩]
        simp (disch := omega) only [impl_MarkAt.j0, Bool.false_eq_true, if_false, w64]
        rw [if_pos h0, if_pos (by omega), if_pos (by omega)]
        split
        · rfl
        · split <;> rfl
  · rw [if_neg hl, jt, if_neg (fun h => hl h.1)]

theorem impl_White_l0 (s : ByteArray) (hs : s.size ≤ 140737488351232) (d : Nat) : ∀ (k : Nat) (i : Int), 0 ≤ i → i ≤ s.size → s.size - i ≤ d → d < k →
    impl_White.l0 k s i = some (upto noWh s i) := by
  induction d with
  | zero =>
    intro k i h0 h1 hd hk
    obtain ⟨k, rfl⟩ : ∃ m, k = m + 1 := ⟨k - 1, by omega⟩
    simp (disch := omega) only [impl_White.l0, impl_byteAt_ok, byteM_end, impl_isWhite_ok, Option.bind_some, upto_end]
    rfl
  | succ d ih =>
    intro k i h0 h1 hd hk
    obtain ⟨k, rfl⟩ : ∃ m, k = m + 1 := ⟨k - 1, by omega⟩
    by_cases hi : i < s.size
    · simp (disch := omega) only [impl_White.l0, impl_byteAt_ok, byteM_in, impl_isWhite_ok, Option.bind_some]
      by_cases hb : whB (bt s i) = true
      · rw [if_pos hb, upto_next hi (by simp [noWh, hb]), w64 (by omega) (by omega)]
        exact ih k (i + 1) (by omega) (by omega) (by omega) (by omega)
      · rw [if_neg hb, upto_hit hi (by simpa [noWh] using hb)]
    · simp (disch := omega) only [impl_White.l0, impl_byteAt_ok, byteM_end, impl_isWhite_ok, Option.bind_some, upto_end]
      rfl
theorem impl_White_ok (s : ByteArray) (p : Int) (hs : s.size ≤ 140737488351232) (k : Nat) (hk : s.size < k) : impl_White.f k s p = some (whiteM s p) := by
  have h0 := spotM_lo s p
  have h1 := spotM_hi s p
  simp only [impl_White.f, impl_spot_ok, Option.bind_some]
  exact impl_White_l0 s hs s.size k _ h0 h1 (by omega) hk

theorem strings_Repeat_nl (n : Int) (h0 : 0 ≤ n) (h1 : n ≤ 70368744177664) : strings_Repeat.f (⟨#[10]⟩ : ByteArray) n = some (nl n.toNat) := by
  unfold strings_Repeat.f
  have hz : (⟨#[10]⟩ : ByteArray).size = 1 := rfl
  rw [if_pos ⟨h0, by omega, by rw [hz]; omega⟩, repeatL_nl]

theorem impl_FoldFlow_l0 (l : List S44) (hl : l.length ≤ 4194304) (d : Nat) : ∀ (k : Nat) (out : ByteArray) (glue : Bool) (many i : Int), 1 ≤ i → (l.length : Int) - i = d → 0 ≤ many → 2 * d < k →
    (out.size : Int) + many + totP ((l.drop i.toNat).map pr44) + 2 * d ≤ 70368744177664 →
    impl_FoldFlow.l0 k l out glue many i = some (ffN out glue many.toNat ((l.drop i.toNat).map pr44)) := by
  induction d with
  | zero =>
    intro k out glue many i h0 hd hm hk hb
    obtain ⟨k, rfl⟩ : ∃ m, k = m + 1 := ⟨k - 1, by omega⟩
    rw [impl_FoldFlow.l0, if_neg (by omega), drop_end _ _ (by omega)]
    rfl
  | succ d ih =>
    intro k out glue many i h0 hd hm hk hb
    obtain ⟨k, rfl⟩ : ∃ m, k = m + 2 := ⟨k - 2, by omega⟩
    have hi : i < (l.length : Int) := by omega
    have hdr : l.drop i.toNat = rd_T44 l i :: l.drop (i + 1).toNat := drop_at z44 l i (by omega) hi
    have hlast : ((l.drop (i + 1).toNat).map pr44 = []) ↔ ¬ i < (l.length : Int) - 1 := by
      rw [List.map_eq_nil_iff, List.drop_eq_nil_iff]; omega
    rw [hdr, List.map_cons] at hb ⊢
    have ei : wrap64 (i + 1) = i + 1 := w64 (by omega) (by omega)
    have el : wrap64 ((l.length : Int) - 1) = (l.length : Int) - 1 := w64 (by omega) (by omega)
    rw [impl_FoldFlow.l0, if_pos hi, if_pos (by omega), el]
    generalize rd_T44 l i = x at hb ⊢
    have hpx : pr44 x = (x.f0, x.f1) := rfl
    rw [hpx] at hb ⊢
    simp only [totP] at hb
    simp only [ffN]
    have rest : ∀ (s : ByteArray), s.size ≤ many.toNat + 1 → (if out.size + s.size ≤ 9223372036854775807 then (if (out ++ s).size + x.f0.size ≤ 9223372036854775807 then (impl_FoldFlow.l0 k l ((out ++ s) ++ x.f0) x.f1 0 (i + 1)) else (none)) else (none)) = some (ffN (out ++ s ++ x.f0) x.f1 0 ((l.drop (i + 1).toNat).map pr44)) := fun s hs => by
      rw [if_pos (by omega), if_pos (by rw [size_app]; omega)]
      exact ih k _ x.f1 0 (i + 1) (by omega) (by omega) (by omega) (by omega) (by rw [size_app, size_app]; omega)
    have jf : impl_FoldFlow.j1 (k + 1) l out glue many i false x.f0 x.f1 = some (ffN (out ++ ffSep glue many.toNat ++ x.f0) x.f1 0 ((l.drop (i + 1).toNat).map pr44)) := by
      rw [impl_FoldFlow.j1, if_neg (by decide), ei]
      unfold ffSep
      by_cases hz : many > 0
      · rw [if_pos hz, if_pos (show many.toNat > 0 by omega), strings_Repeat_nl many hm (by omega), Option.bind_some]
        exact rest (nl many.toNat) (by rw [nl_size]; omega)
      · rw [if_neg hz, if_neg (show ¬ many.toNat > 0 by omega)]
        cases glue with
        | true =>
          rw [if_pos rfl, if_pos rfl]
          have := rest (⟨#[]⟩ : ByteArray) (by rw [size_none]; omega)
          rw [if_pos (by rw [size_none]; omega)] at this
          rw [app_nil] at this ⊢
          exact this
        | false =>
          rw [if_neg (by decide), if_neg (show ¬ (false = true) by decide)]
          exact rest sp (by rw [sp_size]; omega)
    by_cases hx : x.f0.size = 0
    · rw [if_pos (tl_nil.mpr hx)]
      cases hg : x.f1 with
      | true =>
        rw [if_pos rfl, if_neg (show ¬ (x.f0.size = 0 ∧ true = false ∧ ¬ (l.drop (i + 1).toNat).map pr44 = []) by simp)]
        rw [hg] at jf
        exact jf
      | false =>
        rw [if_neg (by decide)]
        by_cases hL : i < (l.length : Int) - 1
        · rw [show decide (i < (l.length : Int) - 1) = true by simpa using hL, impl_FoldFlow.j1, if_pos rfl, if_pos (show x.f0.size = 0 ∧ false = false ∧ ¬ (l.drop (i + 1).toNat).map pr44 = [] from ⟨hx, rfl, fun c => (hlast.mp c) hL⟩), ei, w64 (n := many + 1) (by omega) (by omega)]
          have := ih k out glue (many + 1) (i + 1) (by omega) (by omega) (by omega) (by omega) (by omega)
          rw [show (many + 1).toNat = many.toNat + 1 by omega] at this
          exact this
        · rw [show decide (i < (l.length : Int) - 1) = false by simpa using hL, if_neg (show ¬ (x.f0.size = 0 ∧ false = false ∧ ¬ (l.drop (i + 1).toNat).map pr44 = []) from fun c => c.2.2 (hlast.mpr hL))]
          rw [hg] at jf
          exact jf
    · rw [if_neg (fun c => hx (tl_nil.mp c)), if_neg (show ¬ (x.f0.size = 0 ∧ x.f1 = false ∧ ¬ (l.drop (i + 1).toNat).map pr44 = []) from fun c => hx c.1)]
      exact jf
theorem impl_FoldFlow_ok (l : List S44) (hl : l.length ≤ 4194304) (hb : totP (l.map pr44) ≤ 35184372088832) (k : Nat) (hk : 2 * l.length + 2 < k) : impl_FoldFlow.f k l = some (foldFlowM (l.map pr44)) := by
  unfold impl_FoldFlow.f
  cases l with
  | nil => rfl
  | cons x r =>
    rw [if_neg (by simp <;> omega), if_pos (by simp <;> omega)]
    have hpx : pr44 x = (x.f0, x.f1) := rfl
    rw [List.map_cons, hpx] at hb
    simp only [totP] at hb
    have := impl_FoldFlow_l0 (x :: r) hl r.length k x.f0 x.f1 0 1 (by omega) (by simp) (by omega) (by simp at hk <;> omega) (by
      rw [show (1 : Int).toNat = 1 from rfl, List.drop_one, List.tail_cons]; simp at hl; omega)
    rw [show (1 : Int).toNat = 1 from rfl, List.drop_one, List.tail_cons] at this
    exact this

theorem totP_snoc (l : List (ByteArray × Bool)) (x : ByteArray × Bool) : totP (l ++ [x]) = totP l + x.1.size := by
  induction l with
  | nil => simp [totP]
  | cons a l ih => rw [List.cons_append, totP, totP, ih]; omega
theorem single_sim (s : ByteArray) (hs : s.size ≤ 1048576) (d : Nat) : ∀ (p : Int) (l : List S44) (cur : List Int) (k k' : Nat), 0 ≤ p → p ≤ (s.size : Int) → (s.size : Int) - p ≤ d → ((l.length + cur.length : Nat) : Int) ≤ p → ((totP (l.map pr44) + cur.length : Nat) : Int) ≤ p → 2 * d + 12 * s.size + 100 ≤ k → 2 * d + 12 * s.size + 100 ≤ k' →
    ∃ r, spec_SingleAt.l0 k s l cur p = some r ∧ impl_SingleAt.l0 k' s p l (strOfNums cur) (trimN 0 cur cur.length : Nat) = some r := by
  induction d with
  | zero =>
    intro p l cur k k' h0 h1 hd hl ht hk hk'
    obtain ⟨k, rfl⟩ : ∃ j, k = j + 1 := ⟨k - 1, by omega⟩
    obtain ⟨k', rfl⟩ : ∃ j, k' = j + 1 := ⟨k' - 1, by omega⟩
    exact ⟨((⟨#[]⟩ : ByteArray), (s.size : Int), 3), by rw [spec_SingleAt.l0, if_neg (by omega)], by rw [impl_SingleAt.l0, if_neg (by omega)]⟩
  | succ d ih =>
    intro p l cur k k' h0 h1 hd hl ht hk hk'
    obtain ⟨k, rfl⟩ : ∃ j, k = j + 2 := ⟨k - 2, by omega⟩
    obtain ⟨k', rfl⟩ : ∃ j, k' = j + 1 := ⟨k' - 1, by omega⟩
    by_cases hp : p < (s.size : Int)
    · have htr := trimN_le 0 cur cur.length
      have hsz : (strOfNums cur).size = cur.length := strOfNums_size cur
      have hcond : (0 ≤ p ∧ 0 ≤ ((trimN 0 cur cur.length : Nat) : Int) ∧ ((trimN 0 cur cur.length : Nat) : Int) ≤ ((strOfNums cur).size : Int) ∧ (l.length + 1) * 24 ≤ 140737488355328 ∧ (strOfNums cur).size + 1 ≤ 9223372036854775807) := by rw [hsz]; omega
      rw [spec_SingleAt.l0, if_pos hp, if_pos h0, impl_SingleAt.l0, if_pos hp, if_pos hcond, w64 (n := p + 1) (by omega) (by omega)]
      have hpl : ∀ x : S44, (l ++ [x]).map pr44 = l.map pr44 ++ [pr44 x] := fun x => by rw [List.map_append]; rfl
      have hb2 : (if p + 1 < (s.size : Int) then (if 0 ≤ p + 1 then spec_SingleAt.j2 (k + 1) s l cur p (bt s (p + 1) == 39) else none) else spec_SingleAt.j2 (k + 1) s l cur p false) = spec_SingleAt.j2 (k + 1) s l cur p (decide (byteM s (p + 1) = 39)) := by
        by_cases h2 : p + 1 < (s.size : Int)
        · rw [if_pos h2, if_pos (by omega), byteM_in (by omega) h2]
          congr 1
        · rw [if_neg h2, byteM_end (by omega)]
          rfl
      rw [hb2]
      by_cases c39 : bt s p = 39
      · have c10 : ¬ bt s p = 10 := by omega
        rw [if_pos c39, if_neg c10, if_pos c39, impl_byteAt_ok s (p + 1), Option.bind_some]
        by_cases b2 : byteM s (p + 1) = 39
        · rw [if_pos b2, show decide (byteM s (p + 1) = 39) = true by simpa using b2, spec_SingleAt.j2, if_pos rfl, if_pos (by omega), w64 (n := p + 1) (by omega) (by omega), w64 (n := p + 1 + 1) (by omega) (by omega), w64 (n := p + 2) (by omega) (by omega)]
          have hlt : p + 1 < (s.size : Int) := by
            rcases Int.lt_or_le (p + 1) (s.size : Int) with h | h
            · exact h
            · rw [byteM_end h] at b2; omega
          obtain ⟨r, e1, e2⟩ := ih (p + 2) l (cur ++ [39]) k k' (by omega) (by omega) (by omega) (by rw [List.length_append, List.length_singleton]; omega) (by rw [List.length_append, List.length_singleton]; omega) (by omega) (by omega)
          rw [trimN_push 0 cur 39 (by omega), if_neg (by decide), son_app, show strOfNums [39] = (⟨#[39]⟩ : ByteArray) from rfl] at e2
          refine ⟨r, by rw [show p + 1 + 1 = p + 2 by omega]; exact e1, ?_⟩
          rw [size_app, hsz, show (⟨#[39]⟩ : ByteArray).size = 1 from rfl]
          exact e2
        · rw [if_neg b2, show decide (byteM s (p + 1) = 39) = false by simpa using b2, spec_SingleAt.j2, if_neg (by decide), if_pos h0, if_pos hp, if_pos c39, if_pos (by omega)]
          have hf : totP ((l ++ [(⟨strOfNums cur, false⟩ : S44)]).map pr44) ≤ 35184372088832 := by
            rw [hpl, totP_snoc]
            show _ + (strOfNums cur).size ≤ _
            omega
          have hll : (l ++ [(⟨strOfNums cur, false⟩ : S44)]).length = l.length + 1 := by rw [List.length_append, List.length_singleton]
          rw [spec_FoldFlow_ok _ (by omega) hf k (by omega), impl_FoldFlow_ok _ (by omega) hf k' (by omega)]
          simp only [Option.bind_some]
          rw [w64 (n := p + 1) (by omega) (by omega)]
          exact ⟨_, rfl, rfl⟩
      · rw [if_neg c39, spec_SingleAt.j2, if_neg (by decide), if_pos h0, if_pos hp, if_neg c39]
        by_cases c10 : bt s p = 10
        · have hcut : spec_l07Cut.f k cur 0 = some (strOfNums (cur.take (trimN 0 cur cur.length))) := spec_l07Cut_ok cur (by omega) 0 (by omega) k (by omega)
          rw [if_pos c10, if_pos c10, hcut, Option.bind_some, if_pos (by omega), w64 (n := p + 1) (by omega) (by omega), spec_MarkAt_ok s (p + 1) (by omega) k (by omega), Option.bind_some, impl_MarkAt_ok s (p + 1) (by omega) k' (by omega), Option.bind_some]
          have hm : markM s (p + 1) = 0 ∨ markM s (p + 1) = 1 ∨ markM s (p + 1) = 2 := by
            unfold markM
            split
            · split
              · exact .inr (.inl rfl)
              · split
                · exact .inr (.inr rfl)
                · exact .inl rfl
            · exact .inl rfl
          by_cases cm : markM s (p + 1) = 0
          · rw [if_neg (by omega), if_pos cm, spec_White_ok s (p + 1) (by omega) k (by omega), Option.bind_some, impl_White_ok s (p + 1) (by omega) k' (by omega), Option.bind_some]
            have g1 := whiteM_ge s (p + 1)
            have g2 := whiteM_le s (p + 1)
            rw [spotM_in (by omega) (by omega)] at g1
            rw [w64 (n := whiteM s (p + 1) - 1) (by omega) (by omega), show whiteM s (p + 1) - 1 + 1 = whiteM s (p + 1) by omega, w64 (n := whiteM s (p + 1)) (by omega) (by omega), show ((trimN 0 cur cur.length : Nat) : Int).toNat = trimN 0 cur cur.length by omega, son_take cur _ htr]
            have hts : (strOfNums (cur.take (trimN 0 cur cur.length))).size = trimN 0 cur cur.length := by rw [strOfNums_size, List.length_take]; omega
            obtain ⟨r, e1, e2⟩ := ih (whiteM s (p + 1)) (l ++ [⟨strOfNums (cur.take (trimN 0 cur cur.length)), false⟩]) [] k k' (by omega) (by omega) (by omega) (by rw [List.length_append, List.length_singleton, List.length_nil]; omega) (by
              rw [hpl, totP_snoc]
              show ((_ + (strOfNums (cur.take (trimN 0 cur cur.length))).size + ([] : List Int).length : Nat) : Int) ≤ _
              rw [hts, List.length_nil]
              omega) (by omega) (by omega)
            exact ⟨r, e1, e2⟩
          · rw [if_pos (by omega), if_neg cm]
            exact ⟨_, rfl, rfl⟩
        · rw [if_neg c10, if_neg c10, if_neg c39, if_pos (by omega), impl_isWhite_ok, Option.bind_some, w64 (n := p + 1) (by omega) (by omega)]
          obtain ⟨r, e1, e2⟩ := ih (p + 1) l (cur ++ [bt s p]) k k' (by omega) (by omega) (by omega) (by rw [List.length_append, List.length_singleton]; omega) (by rw [List.length_append, List.length_singleton]; omega) (by omega) (by omega)
          refine ⟨r, e1, ?_⟩
          rw [trimN_push 0 cur (bt s p) (by omega), son_app] at e2
          rw [size_app, hsz, show (strOfNums [bt s p]).size = 1 from strOfNums_size _]
          by_cases hw : whB (bt s p) = true
          · rw [if_pos hw] at e2 ⊢
            exact e2
          · rw [if_neg hw] at e2 ⊢
            exact e2
    · exact ⟨((⟨#[]⟩ : ByteArray), (s.size : Int), 3), by rw [spec_SingleAt.l0, if_neg (by omega)], by rw [impl_SingleAt.l0, if_neg (by omega)]⟩
theorem FnExactSingleAt : laws_FnExactSingleAt.Pure := by
  intro s p hs hp
  by_cases h : (s.size : Int) > 1048576
  · exact ⟨0, by simp only [laws_FnExactSingleAt.f, if_pos h]⟩
  · refine ⟨20 * s.size + 200, ?_⟩
    have hlo := spotM_lo s p
    have hhi := spotM_hi s p
    have hsp : spec_l01P.f s p = some (spotM s p) := spec_l01P_ok s p
    have him : impl_spot.f s p = some (spotM s p) := impl_spot_ok s p
    suffices hh : ∃ r, spec_SingleAt.f (20 * s.size + 200) s p = some r ∧ impl_SingleAt.f (20 * s.size + 200) s p = some r by
      obtain ⟨r, e1, e2⟩ := hh
      unfold laws_FnExactSingleAt.f
      rw [if_neg h, e1, e2]
      simp
    unfold spec_SingleAt.f impl_SingleAt.f
    rw [hsp, him, Option.bind_some, Option.bind_some, impl_byteAt_ok, Option.bind_some]
    obtain ⟨k, hk⟩ : ∃ k, 20 * s.size + 200 = k + 1 := ⟨20 * s.size + 199, by omega⟩
    by_cases hq : spotM s p ≥ (s.size : Int)
    · rw [if_pos hq, byteM_end hq, if_neg (by decide), hk, spec_SingleAt.j0, if_pos rfl]
      exact ⟨_, rfl, rfl⟩
    · rw [if_neg hq, if_pos hlo, if_pos (by omega), byteM_in hlo (by omega), hk, spec_SingleAt.j0]
      by_cases c39 : bt s (spotM s p) = 39
      · rw [if_pos c39, if_neg (by simp [c39]), w64 (n := spotM s p + 1) (by omega) (by omega)]
        obtain ⟨r, e1, e2⟩ := single_sim s (by omega) s.size (spotM s p + 1) [] [] k (k + 1) (by omega) (by omega) (by omega) (by simp; omega) (by simp [totP]; omega) (by omega) (by omega)
        exact ⟨r, e1, e2⟩
      · rw [if_neg c39, if_pos (by simpa using c39)]
        exact ⟨_, rfl, rfl⟩

end Go.Proofs.Ytacmlggiklkbiaa.Pure
