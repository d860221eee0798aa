/- For every text of at most 2^20 bytes and every place, the program's DoubleAt answers as the reference's does; no condition beyond the statement's own. -/
import Derived.Test.YtacmlggiklkbiaaPFnExactDoubleAtx0
import Derived.Test.YtacmlggiklkbiaaPFnExactDoubleAtx1
import Derived.Test.YtacmlggiklkbiaaPFnExactDoubleAtx2
import Derived.Test.YtacmlggiklkbiaaPFnExactDoubleAtx3
import Derived.Test.YtacmlggiklkbiaaPFnExactDoubleAtx4
import Derived.Test.YtacmlggiklkbiaaPFnExactDoubleAtx5
import Derived.Test.YtacmlggiklkbiaaPFnExactDoubleAtx6
import Derived.Test.YtacmlggiklkbiaaPFnExactDoubleAtx7
import Derived.Test.YtacmlggiklkbiaaPFnExactDoubleAtx8
import Derived.Test.YtacmlggiklkbiaaEsc
import Derived.Test.YtacmlggiklkbiaaLst
import Derived.Test.YtacmlggiklkbiaaMap
import Derived.Test.YtacmlggiklkbiaaMine
import Derived.Test.YtacmlggiklkbiaaQuo
import Derived.Test.YtacmlggiklkbiaaRune
import Derived.Test.YtacmlggiklkbiaaTxt
namespace Go.Proofs.Ytacmlggiklkbiaa.Pure
open Go.RowKit Go.Proofs.Ytacmlggiklkbiaa.PFnExactDoubleAt Go.Proofs.YtacmlggiklkbiaaW.PrintWords Go.Proofs.YtacmlggiklkbiaaW.PrintLast Go.Proofs.YtacmlggiklkbiaaW.PrintMore Go.Proofs.Ytacmlggiklkbiaa.Mine

def pr44 (x : S44) : ByteArray × Bool := (x.f0, x.f1)
theorem spec_l01P_ok (s : ByteArray) (p : Int) : spec_l01P.f s p = some (spotM s p) := by
  unfold spec_l01P.f spotM
  split
  · rfl
  · split <;> rfl

theorem spec_FoldFlow_l1 (l l2 : List S44) (t : ByteArray) (g : Bool) (i len : Int) (n : Nat) : ∀ (k : Nat) (out : ByteArray), (out.size : Int) + n + t.size ≤ 70368744177664 →
    spec_FoldFlow.l1 (k + n + 1) l out (n : Int) l2 len i t g = spec_FoldFlow.l0 k l (out ++ nl n ++ t) 0 g l2 len (wrap64 (i + 1)) := by
  induction n with
  | zero =>
    intro k out hb
    rw [show k + 0 + 1 = k + 1 by omega, spec_FoldFlow.l1, if_neg (by omega), if_pos (by omega), nl_zero, app_nil]
    rfl
  | succ n ih =>
    intro k out hb
    have hz : (⟨#[10]⟩ : ByteArray).size = 1 := rfl
    rw [show k + (n + 1) + 1 = (k + n + 1) + 1 by omega, spec_FoldFlow.l1, if_pos (by omega), if_pos (by omega), show (((n + 1 : Nat) : Int) - 1) = (n : Int) by omega, w64 (by omega) (by omega), ih k _ (by rw [size_app, hz]; omega)]
    rw [show (⟨#[10]⟩ : ByteArray) = nl 1 from rfl, app_assoc out (nl 1) (nl n), nl_add, show 1 + n = n + 1 by omega]
theorem spec_FoldFlow_l0 (l : List S44) (hl : l.length ≤ 4194304) (d : Nat) : ∀ (k : Nat) (out : ByteArray) (glue : Bool) (many i : Int), 1 ≤ i → (l.length : Int) - i = d → 0 ≤ many → 10 * (d : Int) + many + 10 ≤ k →
    (out.size : Int) + many + totP ((l.drop i.toNat).map pr44) + 2 * d ≤ 70368744177664 →
    spec_FoldFlow.l0 k l out many glue l (l.length : Int) i = some (ffN out glue many.toNat ((l.drop i.toNat).map pr44)) := by
  induction d with
  | zero =>
    intro k out glue many i h0 hd hm hk hb
    obtain ⟨k, rfl⟩ : ∃ m, k = m + 1 := ⟨k - 1, by omega⟩
    rw [spec_FoldFlow.l0, if_neg (by omega), drop_end _ _ (by omega)]
    rfl
  | succ d ih =>
    intro k out glue many i h0 hd hm hk hb
    obtain ⟨k, rfl⟩ : ∃ m, k = m + 5 := ⟨k - 5, by omega⟩
    have hi : i < (l.length : Int) := by omega
    have hdr : l.drop i.toNat = rd_T44 l i :: l.drop (i + 1).toNat := drop_at z44 l i (by omega) hi
    have hlast : ((l.drop (i + 1).toNat).map pr44 = []) ↔ ¬ i < (l.length : Int) - 1 := by
      rw [List.map_eq_nil_iff, List.drop_eq_nil_iff]; omega
    rw [hdr, List.map_cons] at hb ⊢
    have ei : wrap64 (i + 1) = i + 1 := w64 (by omega) (by omega)
    have el : wrap64 ((l.length : Int) - 1) = (l.length : Int) - 1 := w64 (by omega) (by omega)
    rw [spec_FoldFlow.l0, if_pos hi, if_pos (by omega), if_pos hi, if_pos (by omega), el]
    generalize rd_T44 l i = x at hb ⊢
    have hpx : pr44 x = (x.f0, x.f1) := rfl
    rw [hpx] at hb ⊢
    simp only [totP] at hb
    simp only [ffN]
    have fin : ∀ (m : Nat) (o : ByteArray) (k' : Nat), m ≤ many.toNat → o.size + m ≤ out.size + many.toNat + 1 → 10 * (d : Int) + m + 11 ≤ k' →
        spec_FoldFlow.l1 k' l o (m : Int) l (l.length : Int) i x.f0 x.f1 = some (ffN (o ++ nl m ++ x.f0) x.f1 0 ((l.drop (i + 1).toNat).map pr44)) := fun m o k' hm1 hs hk' => by
      obtain ⟨k'', rfl⟩ : ∃ q, k' = q + m + 1 := ⟨k' - m - 1, by omega⟩
      rw [spec_FoldFlow_l1 l l _ _ i _ m k'' o (by omega), ei]
      exact ih k'' _ x.f1 0 (i + 1) (by omega) (by omega) (by omega) (by omega) (by rw [size_app, size_app, nl_size]; omega)
    have jf : spec_FoldFlow.j1 (k + 4) l out many glue i l (l.length : Int) i false x.f0 x.f1 = some (ffN (out ++ ffSep glue many.toNat ++ x.f0) x.f1 0 ((l.drop (i + 1).toNat).map pr44)) := by
      rw [spec_FoldFlow.j1, if_neg (by decide), if_pos (by omega)]
      unfold ffSep
      by_cases hz : many = 0
      · rw [if_pos hz, if_neg (show ¬ many.toNat > 0 by omega)]
        cases glue with
        | true =>
          rw [show (!true) = false from rfl, spec_FoldFlow.j2, if_neg (by decide), spec_FoldFlow.j3, if_pos rfl, app_nil]
          have := fin 0 out (k + 1) (by omega) (by omega) (by omega)
          rw [nl_zero, app_nil] at this
          rw [hz]
          exact this
        | false =>
          rw [show (!false) = true from rfl, spec_FoldFlow.j2, if_pos rfl, if_pos (by omega), spec_FoldFlow.j3, if_neg (show ¬ (false = true) by decide)]
          have := fin 0 (out ++ (⟨#[32]⟩ : ByteArray)) (k + 1) (by omega) (by rw [size_app]; show out.size + 1 + 0 ≤ _; omega) (by omega)
          rw [nl_zero, app_nil] at this
          rw [hz]
          exact this
      · rw [if_neg hz, spec_FoldFlow.j2, if_neg (by decide), spec_FoldFlow.j3, if_pos (show many.toNat > 0 by omega)]
        have := fin many.toNat out (k + 1) (by omega) (by omega) (by omega)
        rw [show (many.toNat : Int) = many by omega] at this
        exact this
    by_cases hL : i < (l.length : Int) - 1
    · rw [if_pos hL]
      by_cases hx : x.f0.size = 0
      · rw [if_pos (tl_nil.mpr hx)]
        cases hg : x.f1 with
        | true =>
          rw [show (!true) = false from rfl, if_neg (show ¬ (x.f0.size = 0 ∧ true = false ∧ ¬ (l.drop (i + 1).toNat).map pr44 = []) by simp)]
          rw [hg] at jf
          exact jf
        | false =>
          rw [show (!false) = true from rfl, spec_FoldFlow.j1, if_pos rfl, if_pos (show x.f0.size = 0 ∧ false = false ∧ ¬ (l.drop (i + 1).toNat).map pr44 = [] from ⟨hx, rfl, fun c => (hlast.mp c) hL⟩), ei, w64 (n := many + 1) (by omega) (by omega)]
          have := ih (k + 3) out glue (many + 1) (i + 1) (by omega) (by omega) (by omega) (by omega) (by omega)
          rw [show (many + 1).toNat = many.toNat + 1 by omega] at this
          exact this
      · rw [if_neg (fun c => hx (tl_nil.mp c)), if_neg (show ¬ (x.f0.size = 0 ∧ x.f1 = false ∧ ¬ (l.drop (i + 1).toNat).map pr44 = []) from fun c => hx c.1)]
        exact jf
    · rw [if_neg hL, if_neg (show ¬ (x.f0.size = 0 ∧ x.f1 = false ∧ ¬ (l.drop (i + 1).toNat).map pr44 = []) from fun c => c.2.2 (hlast.mpr hL))]
      exact jf
theorem spec_FoldFlow_ok (l : List S44) (hl : l.length ≤ 4194304) (hb : totP (l.map pr44) ≤ 35184372088832) (k : Nat) (hk : 10 * l.length + 20 ≤ k) : spec_FoldFlow.f k l = some (foldFlowM (l.map pr44)) := by
  unfold spec_FoldFlow.f
  cases l with
  | nil =>
    obtain ⟨k, rfl⟩ : ∃ m, k = m + 1 := ⟨k - 1, by omega⟩
    rw [spec_FoldFlow.l0, if_neg (by simp)]
    rfl
  | cons x r =>
    obtain ⟨k, rfl⟩ : ∃ m, k = m + 6 := ⟨k - 6, by omega⟩
    have hpx : pr44 x = (x.f0, x.f1) := rfl
    rw [List.map_cons, hpx] at hb
    simp only [totP] at hb
    have hrd : rd_T44 (x :: r) 0 = x := rfl
    rw [spec_FoldFlow.l0, if_pos (by simp <;> omega), if_pos (by omega), if_pos (by simp <;> omega), if_neg (by omega), hrd, spec_FoldFlow.j1, if_neg (by decide), if_neg (by omega), spec_FoldFlow.j2, if_neg (by decide), spec_FoldFlow.j3]
    have hl1 := spec_FoldFlow_l1 (x :: r) (x :: r) x.f0 x.f1 0 ((x :: r).length : Int) 0 (k + 1) (⟨#[]⟩ : ByteArray) (by rw [size_none]; omega)
    rw [show k + 1 + 0 + 1 = k + 2 by omega, nl_zero, nil_app, nil_app, w64 (by omega) (by omega)] at hl1
    have := spec_FoldFlow_l0 (x :: r) hl r.length (k + 1) x.f0 x.f1 0 1 (by omega) (by simp) (by omega) (by simp at hk <;> omega) (by
      rw [show (1 : Int).toNat = 1 from rfl, List.drop_one, List.tail_cons]; simp at hl; omega)
    rw [show (1 : Int).toNat = 1 from rfl, List.drop_one, List.tail_cons] at this
    exact hl1.trans this

theorem spec_l07Cut_l0 (l : List Int) (hl : l.length ≤ 140737488351232) (m : Nat) (n : Nat) : ∀ k : Nat, n ≤ l.length → m ≤ n → n < k → spec_l07Cut.l0 k (l.take n) (m : Int) = some (strOfNums (l.take (trimN m l n))) := by
  induction n with
  | zero =>
    intro k hn hm hk
    obtain ⟨k, rfl⟩ : ∃ j, k = j + 1 := ⟨k - 1, by omega⟩
    rw [spec_l07Cut.l0, if_neg (by simp)]
    rfl
  | succ n ih =>
    intro k hn hm hk
    obtain ⟨k, rfl⟩ : ∃ j, k = j + 1 := ⟨k - 1, by omega⟩
    have hlen : (l.take (n + 1)).length = n + 1 := by rw [List.length_take]; omega
    have hlenI : ((l.take (n + 1)).length : Int) = (n : Int) + 1 := by omega
    rw [spec_l07Cut.l0, trimN, hlenI, show (n : Int) + 1 - 1 = (n : Int) by omega, w64 (by omega) (by omega), rd_take l n hn]
    by_cases hmn : m < n + 1
    · rw [if_pos (by omega), if_pos (by omega), if_pos (by omega)]
      have ht : (l.take (n + 1)).take (n : Int).toNat = l.take n := by rw [List.take_take]; congr 1; omega
      by_cases h32 : rd l (n : Int) = 32
      · rw [if_pos h32, if_pos (by omega), ht, ih k (by omega) (by omega) (by omega), if_pos ⟨hmn, by simp [whB, h32]⟩]
      · rw [if_neg h32]
        by_cases h9 : rd l (n : Int) = 9
        · rw [if_pos h9, if_pos (by omega), ht, ih k (by omega) (by omega) (by omega), if_pos ⟨hmn, by simp [whB, h9]⟩]
        · rw [if_neg h9, if_neg (fun q => by have := q.2; simp [whB, h32, h9] at this)]
    · rw [if_neg (by omega), if_neg (by omega)]
theorem spec_l07Cut_ok (l : List Int) (hl : l.length ≤ 140737488351232) (m : Nat) (hm : m ≤ l.length) (k : Nat) (hk : l.length < k) : spec_l07Cut.f k l (m : Int) = some (strOfNums (l.take (trimN m l l.length))) := by
  have h := spec_l07Cut_l0 l hl m l.length k (Nat.le_refl _) hm hk
  rw [List.take_length] at h
  exact h

theorem spec_LineAt_l0 (s : ByteArray) (hs : s.size ≤ 140737488351232) (d : Nat) : ∀ (k : Nat) (i : Int), 0 ≤ i → i ≤ s.size → i ≤ d → d < k →
    spec_LineAt.l0 k s i = some (lastM 10 s i) := by
  induction d with
  | zero =>
    intro k i h0 h1 hd hk
    obtain ⟨k, rfl⟩ : ∃ m, k = m + 1 := ⟨k - 1, by omega⟩
    simp (disch := omega) only [spec_LineAt.l0, if_neg, lastM_neg]
    congr 1; omega
  | succ d ih =>
    intro k i h0 h1 hd hk
    obtain ⟨k, rfl⟩ : ∃ m, k = m + 1 := ⟨k - 1, by omega⟩
    by_cases hi : 0 < i
    · by_cases hb : bt s (i - 1) = 10
      · simp (disch := omega) only [spec_LineAt.l0, if_pos, w64, lastM_hit]
      · simp (disch := omega) only [spec_LineAt.l0, if_pos, if_neg, w64, lastM_prev]
        exact ih k (i - 1) (by omega) (by omega) (by omega) (by omega)
    · simp (disch := omega) only [spec_LineAt.l0, if_neg, lastM_neg]
      congr 1; omega
theorem spec_LineAt_ok (s : ByteArray) (p : Int) (hs : s.size ≤ 140737488351232) (k : Nat) (hk : s.size < k) : spec_LineAt.f k s p = some (lineM s p) := by
  have h0 := spotM_lo s p
  have h1 := spotM_hi s p
  simp only [spec_LineAt.f, spec_l01P_ok, Option.bind_some]
  exact spec_LineAt_l0 s hs s.size k _ h0 h1 h1 hk

theorem spec_l03White_in (s : ByteArray) (p : Int) (h0 : 0 ≤ p) (h1 : p < s.size) : spec_l03White.f s p = some (whB (bt s p)) := by
  simp (disch := omega) only [spec_l03White.f, if_pos]
  by_cases h : bt s p = 32
  · rw [if_pos h, whB_iff.mpr (.inl h)]
  · rw [if_neg h]
    by_cases h9 : bt s p = 9
    · rw [h9]; rfl
    · rw [whB_not.mpr (by omega)]; simp [h9]
theorem spec_l03White_end (s : ByteArray) (p : Int) (h1 : (s.size : Int) ≤ p) : spec_l03White.f s p = some false := by
  simp (disch := omega) only [spec_l03White.f, if_neg]
theorem spec_l03White_ok (s : ByteArray) (p : Int) (h0 : 0 ≤ p) : spec_l03White.f s p = some (whB (byteM s p)) := by
  by_cases h : p < s.size
  · rw [spec_l03White_in s p h0 h, byteM_in h0 h]
  · rw [spec_l03White_end s p (by omega), byteM_end (by omega)]; rfl

theorem spec_l03Break_ok (s : ByteArray) (p : Int) (h0 : 0 ≤ p) : spec_l03Break.f s p = some (brB (byteM s p)) := by
  unfold spec_l03Break.f
  by_cases h : p < s.size
  · rw [if_neg (by omega), if_pos h0, if_pos h, byteM_in h0 h]
    have := bt_lo s p
    by_cases h10 : bt s p = 10
    · rw [h10]; rfl
    · rw [brB_not.mpr (by omega)]; simp [h10]
  · rw [if_pos (by omega), byteM_end (by omega)]; rfl

theorem spec_l03Gap_ok (s : ByteArray) (p : Int) (h0 : 0 ≤ p) : spec_l03Gap.f s p = some (gapB (byteM s p)) := by
  simp only [spec_l03Gap.f, spec_l03White_ok s p h0, spec_l03Break_ok s p h0, Option.bind_some, gapB_eq]
  cases whB (byteM s p) <;> rfl

theorem spec_MarkAt_ok (s : ByteArray) (p : Int) (hs : s.size ≤ 140737488351232) (k : Nat) (hk : s.size + 1 < k) : spec_MarkAt.f k s p = some (markM s p) := by
  have h0 := spotM_lo s p
  have h1 := spotM_hi s p
  obtain ⟨k, rfl⟩ : ∃ m, k = m + 1 := ⟨k - 1, by omega⟩
  simp (disch := omega) only [spec_MarkAt.f, spec_l01P_ok, spec_LineAt_ok, Option.bind_some, markM]
  generalize spotM s p = q at h0 h1 ⊢
  have jt : spec_MarkAt.j0 (k + 1) s q true = some 0 := by simp only [spec_MarkAt.j0, if_true]
  by_cases hl : lineM s q = q
  · rw [if_pos hl, w64 (by omega) (by omega)]
    by_cases h3 : (s.size : Int) - q < 3
    · rw [if_pos h3, jt, if_neg (by omega)]
    · rw [if_neg h3]
      simp (disch := omega) only [w64, spec_l03Gap_ok, Option.bind_some]
      cases hg : gapB (byteM s (q + 3)) with
      | false => rw [show (!false) = true from rfl, jt, if_neg (by simp)]
      | true =>
        rw [show (!true) = false from rfl, if_pos ⟨hl, by omega, rfl⟩]
        simp (disch := omega) only [spec_MarkAt.j0, Bool.false_eq_true, if_false, w64]
        rw [if_pos h0, if_pos (by omega), if_pos (by omega)]
        split
        · rfl
        · split <;> rfl
  · rw [if_neg hl, jt, if_neg (fun h => hl h.1)]

theorem spec_White_l0 (s : ByteArray) (hs : s.size ≤ 140737488351232) (d : Nat) : ∀ (k : Nat) (i : Int), 0 ≤ i → i ≤ s.size → s.size - i ≤ d → d < k →
    spec_White.l0 k s i = some (upto noWh s i) := by
  induction d with
  | zero =>
    intro k i h0 h1 hd hk
    obtain ⟨k, rfl⟩ : ∃ m, k = m + 1 := ⟨k - 1, by omega⟩
    simp (disch := omega) only [spec_White.l0, spec_l03White_end, Option.bind_some, Bool.false_eq_true, if_false, upto_end]
  | succ d ih =>
    intro k i h0 h1 hd hk
    obtain ⟨k, rfl⟩ : ∃ m, k = m + 1 := ⟨k - 1, by omega⟩
    by_cases hi : i < s.size
    · simp (disch := omega) only [spec_White.l0, spec_l03White_in, Option.bind_some]
      by_cases hb : whB (bt s i) = true
      · rw [if_pos hb, upto_next hi (by simp [noWh, hb]), w64 (by omega) (by omega)]
        exact ih k (i + 1) (by omega) (by omega) (by omega) (by omega)
      · rw [if_neg hb, upto_hit hi (by simpa [noWh] using hb)]
    · simp (disch := omega) only [spec_White.l0, spec_l03White_end, Option.bind_some, Bool.false_eq_true, if_false, upto_end]
theorem spec_White_ok (s : ByteArray) (p : Int) (hs : s.size ≤ 140737488351232) (k : Nat) (hk : s.size < k) : spec_White.f k s p = some (whiteM s p) := by
  have h0 := spotM_lo s p
  have h1 := spotM_hi s p
  simp only [spec_White.f, spec_l01P_ok, Option.bind_some]
  exact spec_White_l0 s hs s.size k _ h0 h1 (by omega) hk

theorem spec_RuneBytes_ok (r : Int) (k : Nat) (hk : 1 ≤ k) : spec_RuneBytes.f k r = some (runeM r) := by
  obtain ⟨k, rfl⟩ : ∃ m, k = m + 1 := ⟨k - 1, by omega⟩
  unfold spec_RuneBytes.f runeM
  by_cases h : okRune r
  · rw [if_pos h]
    have h' := h
    obtain ⟨a, b, c⟩ := h'
    rw [if_neg (by omega), if_neg (by omega)]
    have e : (if r ≥ 55296 then spec_RuneBytes.j0 (k + 1) r (decide (r ≤ 57343)) else spec_RuneBytes.j0 (k + 1) r false) = spec_RuneBytes.j0 (k + 1) r false := by
      by_cases h5 : r ≥ 55296
      · rw [if_pos h5, show decide (r ≤ 57343) = false by simp; omega]
      · rw [if_neg h5]
    rw [e, enc_eq h]
    simp only [spec_RuneBytes.j0, Bool.false_eq_true, if_false]
    by_cases h1 : r < 128
    · rw [if_pos h1, if_pos (show r.toNat < 0x80 by omega), son1, show (r % 256).toNat = r.toNat by omega]
    · rw [if_neg h1, if_neg (show ¬ r.toNat < 0x80 by omega)]
      by_cases h2 : r < 2048
      · rw [if_pos h2, if_pos (show r.toNat < 0x800 by omega), son2, Int.tdiv_eq_ediv_of_nonneg a, Int.tmod_eq_emod_of_nonneg a, w64 (n := r / 64) (by omega) (by omega), w64 (by omega) (by omega), w64 (by omega) (by omega),
          show ((192 + r / 64) % 256).toNat = 0xC0 + r.toNat / 64 by omega, show ((128 + r % 64) % 256).toNat = 0x80 + r.toNat % 64 by omega]
      · rw [if_neg h2, if_neg (show ¬ r.toNat < 0x800 by omega)]
        by_cases h3 : r < 65536
        · rw [if_pos h3, if_pos (show r.toNat < 0x10000 by omega), son3, Int.tdiv_eq_ediv_of_nonneg a, Int.tdiv_eq_ediv_of_nonneg a, Int.tmod_eq_emod_of_nonneg a, w64 (n := r / 64) (by omega) (by omega), w64 (n := r / 4096) (by omega) (by omega),
            Int.tmod_eq_emod_of_nonneg (a := r / 64) (by omega), w64 (by omega) (by omega), w64 (by omega) (by omega), w64 (by omega) (by omega),
            show ((224 + r / 4096) % 256).toNat = 0xE0 + r.toNat / 4096 by omega, show ((128 + r / 64 % 64) % 256).toNat = 0x80 + r.toNat / 64 % 64 by omega, show ((128 + r % 64) % 256).toNat = 0x80 + r.toNat % 64 by omega]
        · rw [if_neg h3, if_neg (show ¬ r.toNat < 0x10000 by omega), son4, Int.tdiv_eq_ediv_of_nonneg a, Int.tdiv_eq_ediv_of_nonneg a, Int.tdiv_eq_ediv_of_nonneg a, Int.tmod_eq_emod_of_nonneg a, w64 (n := r / 64) (by omega) (by omega), w64 (n := r / 4096) (by omega) (by omega), w64 (n := r / 262144) (by omega) (by omega),
            Int.tmod_eq_emod_of_nonneg (a := r / 64) (by omega), Int.tmod_eq_emod_of_nonneg (a := r / 4096) (by omega), w64 (by omega) (by omega), w64 (by omega) (by omega), w64 (by omega) (by omega), w64 (by omega) (by omega),
            show ((240 + r / 262144) % 256).toNat = 0xF0 + r.toNat / 262144 by omega, show ((128 + r / 4096 % 64) % 256).toNat = 0x80 + r.toNat / 4096 % 64 by omega, show ((128 + r / 64 % 64) % 256).toNat = 0x80 + r.toNat / 64 % 64 by omega, show ((128 + r % 64) % 256).toNat = 0x80 + r.toNat % 64 by omega]
  · rw [if_neg h]
    have hc : r < 0 ∨ r > 1114111 ∨ (55296 ≤ r ∧ r ≤ 57343) := by unfold okRune at h; omega
    have hj : spec_RuneBytes.j0 (k + 1) r true = some (⟨#[]⟩ : ByteArray) := by simp only [spec_RuneBytes.j0, if_true]
    by_cases h1 : r < 0
    · rw [if_pos h1, hj]
    · rw [if_neg h1]
      by_cases h2 : r > 1114111
      · rw [if_pos h2, hj]
      · rw [if_neg h2, if_pos (by omega), show decide (r ≤ 57343) = true by simp; omega, hj]

theorem spec_l07Hex_l0 (s : ByteArray) (p m : Int) (hs : s.size ≤ 140737488351232) (hp : 0 ≤ p) (hp1 : p ≤ 140737488351240) (hm : 0 ≤ m) (hm8 : m ≤ 8) (d : Nat) : ∀ (k : Nat) (i x : Int), p ≤ i → i + d = p + m → 0 ≤ x → x + 1 ≤ cap d → 3 * d < k →
    spec_l07Hex.l0 k s p m x i = some ((hexN s d i x).getD (-1)) := by
  induction d with
  | zero =>
    intro k i x h0 h1 hx hc hk
    obtain ⟨k, rfl⟩ : ∃ m, k = m + 1 := ⟨k - 1, by omega⟩
    rw [spec_l07Hex.l0, w64 (n := p + m) (by omega) (by omega), if_neg (by omega)]; rfl
  | succ d ih =>
    intro k i x h0 h1 hx hc hk
    obtain ⟨k, rfl⟩ : ∃ m, k = m + 3 := ⟨k - 3, by omega⟩
    have hcap := cap_le d
    unfold cap at hc
    have b0 := bt_lo s i
    have b1 := bt_hi s i
    rw [spec_l07Hex.l0, w64 (n := p + m) (by omega) (by omega), if_pos (by omega), hexN]
    by_cases c : i ≥ (s.size : Int)
    · rw [if_pos c, byteM_end c]; rfl
    · rw [if_neg c, if_pos (by omega), if_pos (by omega), byteM_in (by omega) (by omega)]
      have j2 : ∀ f : Bool, (f = true ↔ (97 ≤ bt s i ∧ bt s i ≤ 102)) → ¬ (48 ≤ bt s i ∧ bt s i ≤ 57) → spec_l07Hex.j2 (k + 1) s p m x i (bt s i) f = some ((match hexD (bt s i) with | none => none | some v => hexN s d (i + 1) (16 * x + v)).getD (-1)) := by
        intro f hf hn
        unfold hexD
        rw [spec_l07Hex.j2, if_neg hn]
        by_cases c2 : 97 ≤ bt s i ∧ bt s i ≤ 102
        · rw [if_pos (hf.mpr c2), if_pos c2, show (bt s i - 97) % 256 = bt s i - 97 by omega, w64 (n := x * 16) (by omega) (by omega), w64 (n := x * 16 + (bt s i - 97)) (by omega) (by omega), w64 (by omega) (by omega), w64 (by omega) (by omega), show x * 16 + (bt s i - 97) + 10 = 16 * x + (bt s i - 87) by omega]
          exact ih k (i + 1) _ (by omega) (by omega) (by omega) (by omega) (by omega)
        · rw [if_neg (fun h => c2 (hf.mp h)), if_neg c2]
          by_cases c3 : 65 ≤ bt s i ∧ bt s i ≤ 70
          · rw [if_pos (by omega), if_pos (by omega), if_pos c3, show (bt s i - 65) % 256 = bt s i - 65 by omega, w64 (n := x * 16) (by omega) (by omega), w64 (n := x * 16 + (bt s i - 65)) (by omega) (by omega), w64 (by omega) (by omega), w64 (by omega) (by omega), show x * 16 + (bt s i - 65) + 10 = 16 * x + (bt s i - 55) by omega]
            exact ih k (i + 1) _ (by omega) (by omega) (by omega) (by omega) (by omega)
          · rw [if_neg c3]
            by_cases c4 : bt s i ≥ 65
            · rw [if_pos c4, if_neg (by omega)]; rfl
            · rw [if_neg c4]; rfl
      have j1 : ∀ f : Bool, (f = true ↔ (48 ≤ bt s i ∧ bt s i ≤ 57)) → spec_l07Hex.j1 (k + 2) s p m x i (bt s i) f = some ((match hexD (bt s i) with | none => none | some v => hexN s d (i + 1) (16 * x + v)).getD (-1)) := by
        intro f hf
        rw [spec_l07Hex.j1]
        by_cases c2 : 48 ≤ bt s i ∧ bt s i ≤ 57
        · unfold hexD
          rw [if_pos (hf.mpr c2), if_pos c2, show (bt s i - 48) % 256 = bt s i - 48 by omega, w64 (n := x * 16) (by omega) (by omega), w64 (by omega) (by omega), w64 (by omega) (by omega), show x * 16 + (bt s i - 48) = 16 * x + (bt s i - 48) by omega]
          exact ih (k + 1) (i + 1) _ (by omega) (by omega) (by omega) (by omega) (by omega)
        · rw [if_neg (fun h => c2 (hf.mp h))]
          by_cases c3 : bt s i ≥ 97
          · rw [if_pos c3]
            exact j2 _ (by rw [decide_eq_true_iff]; omega) c2
          · rw [if_neg c3]
            exact j2 _ (by simp; omega) c2
      by_cases c5 : bt s i ≥ 48
      · rw [if_pos c5]
        exact j1 _ (by rw [decide_eq_true_iff]; omega)
      · rw [if_neg c5]
        exact j1 _ (by simp; omega)
theorem spec_l07Hex_ok (s : ByteArray) (p m : Int) (hs : s.size ≤ 140737488351232) (hp : 0 ≤ p) (hp1 : p ≤ 140737488351240) (hm : 0 ≤ m) (hm8 : m ≤ 8) (k : Nat) (hk : 30 ≤ k) : spec_l07Hex.f k s p m = some ((hexN s m.toNat p 0).getD (-1)) := by
  unfold spec_l07Hex.f
  have hc : (1 : Int) ≤ cap m.toNat := by
    have : m.toNat = 0 ∨ m.toNat = 1 ∨ m.toNat = 2 ∨ m.toNat = 3 ∨ m.toNat = 4 ∨ m.toNat = 5 ∨ m.toNat = 6 ∨ m.toNat = 7 ∨ m.toNat = 8 := by omega
    rcases this with h | h | h | h | h | h | h | h | h <;> rw [h] <;> decide
  exact spec_l07Hex_l0 s p m hs hp hp1 hm hm8 m.toNat k p 0 (Int.le_refl _) (by omega) (by omega) hc (by omega)

theorem spec_EscapeAt_j2 (s : ByteArray) (q m : Int) (hs : s.size ≤ 140737488351232) (h0 : 0 ≤ q) (h1 : q ≤ s.size) (hm : 0 ≤ m) (hm8 : m ≤ 8) (k : Nat) (hk : 40 ≤ k) : spec_EscapeAt.j2 k s q m = some (escTail s q m) := by
  obtain ⟨k, rfl⟩ : ∃ m, k = m + 1 := ⟨k - 1, by omega⟩
  rw [spec_EscapeAt.j2]
  unfold escTail
  by_cases c : m = 0
  · rw [if_pos c, if_pos c]
  · rw [if_neg c, if_neg c, w64 (n := q + 2) (by omega) (by omega), spec_l07Hex_ok s (q + 2) m hs (by omega) (by omega) hm hm8 k (by omega), Option.bind_some, spec_RuneBytes_ok _ k (by omega), Option.bind_some, w64 (n := q + 2 + m) (by omega) (by omega)]
    cases hexN s m.toNat (q + 2) 0 with
    | none =>
      have h : (runeM (-1)).size = 0 := rfl
      show (if (runeM (-1)).toList = [] then _ else _) = _
      rw [if_pos (tl_nil.mpr h)]
    | some x =>
      show (if (runeM x).toList = [] then _ else _) = _
      by_cases c2 : (runeM x).size = 0
      · rw [if_pos (tl_nil.mpr c2)]
        show _ = some (if (runeM x).size = 0 then _ else _)
        rw [if_pos c2]
      · rw [if_neg (fun h => c2 (tl_nil.mp h))]
        show _ = some (if (runeM x).size = 0 then _ else _)
        rw [if_neg c2]; rfl
theorem spec_EscapeAt_l0 (s : ByteArray) (q b : Int) (hs : s.size ≤ 140737488351232) (h0 : 0 ≤ q) (h1 : q ≤ s.size) (d : Nat) : ∀ (k : Nat) (i : Int), 0 ≤ i → i + d = 18 → d + 60 ≤ k →
    spec_EscapeAt.l0 k s q b shortA (shortA.length : Int) i = some (match pickN (shortA.drop i.toNat) (shortB.drop i.toNat) b with | some r => (runeM r, q + 2) | none => escTail s q (manyM b)) := by
  induction d with
  | zero =>
    intro k i hi hd hk
    obtain ⟨k, rfl⟩ : ∃ m, k = m + 1 := ⟨k - 1, by omega⟩
    have : i = 18 := by omega
    subst this
    rw [spec_EscapeAt.l0, if_neg (by decide), manyM_eq]
    show _ = some (escTail s q _)
    by_cases c1 : b = 120
    · rw [if_pos c1, if_pos c1]; exact spec_EscapeAt_j2 s q 2 hs h0 h1 (by omega) (by omega) k (by omega)
    · rw [if_neg c1, if_neg c1]
      by_cases c2 : b = 117
      · rw [if_pos c2, if_pos c2]; exact spec_EscapeAt_j2 s q 4 hs h0 h1 (by omega) (by omega) k (by omega)
      · rw [if_neg c2, if_neg c2]
        by_cases c3 : b = 85
        · rw [if_pos c3, if_pos c3]; exact spec_EscapeAt_j2 s q 8 hs h0 h1 (by omega) (by omega) k (by omega)
        · rw [if_neg c3, if_neg c3]; exact spec_EscapeAt_j2 s q 0 hs h0 h1 (by omega) (by omega) k (by omega)
  | succ d ih =>
    intro k i hi hd hk
    obtain ⟨k, rfl⟩ : ∃ m, k = m + 1 := ⟨k - 1, by omega⟩
    have la : (shortA.length : Int) = 18 := rfl
    have lb : (shortB.length : Int) = 18 := rfl
    rw [spec_EscapeAt.l0, if_pos (by omega), if_pos hi, if_pos (by omega), drop_at 0 shortA i hi (by omega), drop_at 0 shortB i hi (by omega), pickN]
    show (if b = shortA.getD i.toNat 0 then _ else _) = _
    by_cases c : b = shortA.getD i.toNat 0
    · rw [if_pos c, if_pos c, Option.bind_some]
      show (if i < (shortB.length : Int) then (spec_RuneBytes.f k (rd shortB i)).bind _ else _) = _
      rw [if_pos (by omega), spec_RuneBytes_ok _ k (by omega), Option.bind_some, w64 (n := q + 2) (by omega) (by omega)]
      rfl
    · rw [if_neg c, if_neg c, w64 (n := i + 1) (by omega) (by omega)]
      exact ih k (i + 1) (by omega) (by omega) (by omega)
theorem spec_EscapeAt_ok (s : ByteArray) (p : Int) (hs : s.size ≤ 140737488351232) (k : Nat) (hk : 100 ≤ k) : spec_EscapeAt.f k s p = some (escM s p) := by
  obtain ⟨k, rfl⟩ : ∃ m, k = m + 1 := ⟨k - 1, by omega⟩
  have h0 := spotM_lo s p
  have h1 := spotM_hi s p
  unfold spec_EscapeAt.f escM
  rw [spec_l01P_ok, Option.bind_some]
  generalize spotM s p = q at h0 h1 ⊢
  rw [w64 (n := q + 1) (by omega) (by omega)]
  have jt : spec_EscapeAt.j0 (k + 1) s q true = some ((⟨#[]⟩ : ByteArray), 0) := by rw [spec_EscapeAt.j0, if_pos rfl]
  by_cases c : q + 1 ≥ (s.size : Int)
  · rw [if_pos c, jt, if_neg (fun h => by omega)]
  · rw [if_neg c, if_pos h0, if_pos (by omega), byteM_in h0 (by omega)]
    by_cases c2 : bt s q = 92
    · rw [show (bt s q != 92) = false by simp [c2], if_pos ⟨c2, by omega⟩, spec_EscapeAt.j0, if_neg (by decide), w64 (n := q + 1) (by omega) (by omega), if_pos (by omega), if_pos (by omega), Option.bind_some]
      have := spec_EscapeAt_l0 s q (bt s (q + 1)) hs h0 h1 18 k 0 (by omega) (by omega) (by omega)
      exact this
    · rw [show (bt s q != 92) = true by simp [c2], jt, if_neg (fun h => c2 h.1)]

theorem impl_spot_ok (s : ByteArray) (p : Int) : impl_spot.f s p = some (spotM s p) := by
  unfold impl_spot.f; rw [mn_mx_spotM]

theorem impl_byteAt_ok (s : ByteArray) (p : Int) : impl_byteAt.f s p = some (byteM s p) := by
  have h0 := spotM_lo s p
  have h1 := spotM_hi s p
  have h2 := bt_lo s (spotM s p)
  have h3 := bt_hi s (spotM s p)
  simp only [impl_byteAt.f, impl_spot_ok, Option.bind_some]
  unfold byteM
  by_cases h : spotM s p = (s.size : Int)
  · rw [if_pos h, if_pos h]
  · rw [if_neg h, if_neg h, if_pos h0, if_pos (by omega), w64 (by omega) (by omega)]

theorem impl_isWhite_ok (b : Int) : impl_isWhite.f b = some (whB b) := by
  unfold impl_isWhite.f
  by_cases h : b = 32
  · rw [if_pos h, whB_iff.mpr (.inl h)]
  · rw [if_neg h]
    by_cases h9 : b = 9
    · rw [h9]; rfl
    · rw [whB_not.mpr (by omega)]; simp [h9]

theorem bytealg_LastIndexByteString_l0 (s : ByteArray) (c : Int) (hs : s.size ≤ 140737488351232) (d : Nat) : ∀ (k : Nat) (i : Int), -1 ≤ i → i < s.size → i < d → d < k →
    bytealg_LastIndexByteString.l0 k s c i = some (lastM c s (i + 1) - 1) := by
  induction d with
  | zero =>
    intro k i h0 h1 hd hk
    obtain ⟨k, rfl⟩ : ∃ m, k = m + 1 := ⟨k - 1, by omega⟩
    simp (disch := omega) only [bytealg_LastIndexByteString.l0, if_neg, lastM_neg]
    rfl
  | succ d ih =>
    intro k i h0 h1 hd hk
    obtain ⟨k, rfl⟩ : ∃ m, k = m + 1 := ⟨k - 1, by omega⟩
    by_cases hi : 0 ≤ i
    · by_cases hb : bt s i = c
      · have hb' : bt s (i + 1 - 1) = c := by rw [show i + 1 - 1 = i by omega]; exact hb
        rw [lastM_hit (by omega) hb']
        simp (disch := omega) only [bytealg_LastIndexByteString.l0, if_pos]
        congr 1; omega
      · have hb' : ¬ bt s (i + 1 - 1) = c := by rw [show i + 1 - 1 = i by omega]; exact hb
        rw [lastM_prev (by omega) hb']
        simp (disch := omega) only [bytealg_LastIndexByteString.l0, if_pos, if_neg, w64]
        rw [ih k (i - 1) (by omega) (by omega) (by omega) (by omega)]
        rw [show i + 1 - 1 = i - 1 + 1 by omega]
    · simp (disch := omega) only [bytealg_LastIndexByteString.l0, if_neg, lastM_neg]
      rfl
theorem bytealg_LastIndexByteString_ok (s : ByteArray) (c : Int) (hs : s.size ≤ 140737488351232) (k : Nat) (hk : s.size < k) :
    bytealg_LastIndexByteString.f k s c = some (lastM c s s.size - 1) := by
  unfold bytealg_LastIndexByteString.f
  rw [w64 (by omega) (by omega), bytealg_LastIndexByteString_l0 s c hs s.size k _ (by omega) (by omega) (by omega) hk]
  rw [show (s.size : Int) - 1 + 1 = s.size by omega]

theorem strings_LastIndexByte_ok (s : ByteArray) (c : Int) (hs : s.size ≤ 140737488351232) (k : Nat) (hk : s.size < k) :
    strings_LastIndexByte.f k s c = some (lastM c s s.size - 1) := by
  simp (disch := omega) only [strings_LastIndexByte.f, bytealg_LastIndexByteString_ok, Option.bind_some]

theorem impl_LineAt_ok (s : ByteArray) (p : Int) (hs : s.size ≤ 140737488351232) (k : Nat) (hk : s.size < k) : impl_LineAt.f k s p = some (lineM s p) := by
  have h0 := spotM_lo s p
  have h1 := spotM_hi s p
  have hz : (s.extract 0 (spotM s p).toNat).size = (spotM s p).toNat := by rw [size_ext _ _ _ (by omega)]; omega
  have hl := lastM_lo 10 (s.extract 0 (spotM s p).toNat) ((spotM s p).toNat : Int)
  have hm := lastM_hi (c := 10) (s := s.extract 0 (spotM s p).toNat) (p := ((spotM s p).toNat : Int)) (by omega)
  simp only [impl_LineAt.f, impl_spot_ok, Option.bind_some]
  rw [if_pos h0, if_pos h1, strings_LastIndexByte_ok _ _ (by omega) k (by omega), Option.bind_some, hz, w64 (by omega) (by omega)]
  unfold lineM
  rw [show ((spotM s p).toNat : Int) = spotM s p by omega] at *
  rw [show ∀ x : Int, x - 1 + 1 = x by intro x; omega]
  congr 1
  refine lastM_ext fun i a b => ?_
  rw [bt_ext (by omega) a (by omega)]
  congr 1; omega

theorem impl_isBreak_ok (b : Int) : impl_isBreak.f b = some (brB b) := by
  unfold impl_isBreak.f brB
  by_cases h : b = 10
  · simp [h]
  · rw [if_neg h]; simp [h]

theorem impl_gapAt_ok (s : ByteArray) (p : Int) : impl_gapAt.f s p = some (gapB (byteM s p)) := by
  simp only [impl_gapAt.f, impl_byteAt_ok, impl_isWhite_ok, impl_isBreak_ok, Option.bind_some, gapB_eq]
  cases whB (byteM s p) <;> rfl

theorem impl_MarkAt_ok (s : ByteArray) (p : Int) (hs : s.size ≤ 140737488351232) (k : Nat) (hk : s.size + 1 < k) : impl_MarkAt.f k s p = some (markM s p) := by
  have h0 := spotM_lo s p
  have h1 := spotM_hi s p
  obtain ⟨k, rfl⟩ : ∃ m, k = m + 1 := ⟨k - 1, by omega⟩
  simp (disch := omega) only [impl_MarkAt.f, impl_spot_ok, impl_LineAt_ok, Option.bind_some, markM]
  generalize spotM s p = q at h0 h1 ⊢
  have jt : impl_MarkAt.j0 (k + 1) s q true = some 0 := by simp only [impl_MarkAt.j0, if_true]
  by_cases hl : lineM s q = q
  · rw [if_pos hl, w64 (by omega) (by omega)]
    by_cases h3 : (s.size : Int) - q < 3
    · rw [if_pos h3, jt, if_neg (by omega)]
    · rw [if_neg h3]
      simp (disch := omega) only [w64, impl_gapAt_ok, Option.bind_some]
      cases hg : gapB (byteM s (q + 3)) with
      | false => rw [show (!false) = true from rfl, jt, if_neg (by simp)]
      | true =>
        rw [show (!true) = false from rfl, if_pos ⟨hl, by omega, rfl⟩]
        simp (disch := omega) only [impl_MarkAt.j0, Bool.false_eq_true, if_false, w64]
        rw [if_pos h0, if_pos (by omega), if_pos (by omega)]
        split
        · rfl
        · split <;> rfl
  · rw [if_neg hl, jt, if_neg (fun h => hl h.1)]

theorem impl_White_l0 (s : ByteArray) (hs : s.size ≤ 140737488351232) (d : Nat) : ∀ (k : Nat) (i : Int), 0 ≤ i → i ≤ s.size → s.size - i ≤ d → d < k →
    impl_White.l0 k s i = some (upto noWh s i) := by
  induction d with
  | zero =>
    intro k i h0 h1 hd hk
    obtain ⟨k, rfl⟩ : ∃ m, k = m + 1 := ⟨k - 1, by omega⟩
    simp (disch := omega) only [impl_White.l0, impl_byteAt_ok, byteM_end, impl_isWhite_ok, Option.bind_some, upto_end]
    rfl
  | succ d ih =>
    intro k i h0 h1 hd hk
    obtain ⟨k, rfl⟩ : ∃ m, k = m + 1 := ⟨k - 1, by omega⟩
    by_cases hi : i < s.size
    · simp (disch := omega) only [impl_White.l0, impl_byteAt_ok, byteM_in, impl_isWhite_ok, Option.bind_some]
      by_cases hb : whB (bt s i) = true
      · rw [if_pos hb, upto_next hi (by simp [noWh, hb]), w64 (by omega) (by omega)]
        exact ih k (i + 1) (by omega) (by omega) (by omega) (by omega)
      · rw [if_neg hb, upto_hit hi (by simpa [noWh] using hb)]
    · simp (disch := omega) only [impl_White.l0, impl_byteAt_ok, byteM_end, impl_isWhite_ok, Option.bind_some, upto_end]
      rfl
theorem impl_White_ok (s : ByteArray) (p : Int) (hs : s.size ≤ 140737488351232) (k : Nat) (hk : s.size < k) : impl_White.f k s p = some (whiteM s p) := by
  have h0 := spotM_lo s p
  have h1 := spotM_hi s p
  simp only [impl_White.f, impl_spot_ok, Option.bind_some]
  exact impl_White_l0 s hs s.size k _ h0 h1 (by omega) hk

theorem strings_Repeat_nl (n : Int) (h0 : 0 ≤ n) (h1 : n ≤ 70368744177664) : strings_Repeat.f (⟨#[10]⟩ : ByteArray) n = some (nl n.toNat) := by
  unfold strings_Repeat.f
  have hz : (⟨#[10]⟩ : ByteArray).size = 1 := rfl
  rw [if_pos ⟨h0, by omega, by rw [hz]; omega⟩, repeatL_nl]

theorem impl_FoldFlow_l0 (l : List S44) (hl : l.length ≤ 4194304) (d : Nat) : ∀ (k : Nat) (out : ByteArray) (glue : Bool) (many i : Int), 1 ≤ i → (l.length : Int) - i = d → 0 ≤ many → 2 * d < k →
    (out.size : Int) + many + totP ((l.drop i.toNat).map pr44) + 2 * d ≤ 70368744177664 →
    impl_FoldFlow.l0 k l out glue many i = some (ffN out glue many.toNat ((l.drop i.toNat).map pr44)) := by
  induction d with
  | zero =>
    intro k out glue many i h0 hd hm hk hb
    obtain ⟨k, rfl⟩ : ∃ m, k = m + 1 := ⟨k - 1, by omega⟩
    rw [impl_FoldFlow.l0, if_neg (by omega), drop_end _ _ (by omega)]
    rfl
  | succ d ih =>
    intro k out glue many i h0 hd hm hk hb
    obtain ⟨k, rfl⟩ : ∃ m, k = m + 2 := ⟨k - 2, by omega⟩
    have hi : i < (l.length : Int) := by omega
    have hdr : l.drop i.toNat = rd_T44 l i :: l.drop (i + 1).toNat := drop_at z44 l i (by omega) hi
    have hlast : ((l.drop (i + 1).toNat).map pr44 = []) ↔ ¬ i < (l.length : Int) - 1 := by
      rw [List.map_eq_nil_iff, List.drop_eq_nil_iff]; omega
    rw [hdr, List.map_cons] at hb ⊢
    have ei : wrap64 (i + 1) = i + 1 := w64 (by omega) (by omega)
    have el : wrap64 ((l.length : Int) - 1) = (l.length : Int) - 1 := w64 (by omega) (by omega)
    rw [impl_FoldFlow.l0, if_pos hi, if_pos (by omega), el]
    generalize rd_T44 l i = x at hb ⊢
    have hpx : pr44 x = (x.f0, x.f1) := rfl
    rw [hpx] at hb ⊢
    simp only [totP] at hb
    simp only [ffN]
    have rest : ∀ (s : ByteArray), s.size ≤ many.toNat + 1 → (if out.size + s.size ≤ 9223372036854775807 then (if (out ++ s).size + x.f0.size ≤ 9223372036854775807 then (impl_FoldFlow.l0 k l ((out ++ s) ++ x.f0) x.f1 0 (i + 1)) else (none)) else (none)) = some (ffN (out ++ s ++ x.f0) x.f1 0 ((l.drop (i + 1).toNat).map pr44)) := fun s hs => by
      rw [if_pos (by omega), if_pos (by rw [size_app]; omega)]
      exact ih k _ x.f1 0 (i + 1) (by omega) (by omega) (by omega) (by omega) (by rw [size_app, size_app]; omega)
    have jf : impl_FoldFlow.j1 (k + 1) l out glue many i false x.f0 x.f1 = some (ffN (out ++ ffSep glue many.toNat ++ x.f0) x.f1 0 ((l.drop (i + 1).toNat).map pr44)) := by
      rw [impl_FoldFlow.j1, if_neg (by decide), ei]
      unfold ffSep
      by_cases hz : many > 0
      · rw [if_pos hz, if_pos (show many.toNat > 0 by omega), strings_Repeat_nl many hm (by omega), Option.bind_some]
        exact rest (nl many.toNat) (by rw [nl_size]; omega)
      · rw [if_neg hz, if_neg (show ¬ many.toNat > 0 by omega)]
        cases glue with
        | true =>
          rw [if_pos rfl, if_pos rfl]
          have := rest (⟨#[]⟩ : ByteArray) (by rw [size_none]; omega)
          rw [if_pos (by rw [size_none]; omega)] at this
          rw [app_nil] at this ⊢
          exact this
        | false =>
          rw [if_neg (by decide), if_neg (show ¬ (false = true) by decide)]
          exact rest sp (by rw [sp_size]; omega)
    by_cases hx : x.f0.size = 0
    · rw [if_pos (tl_nil.mpr hx)]
      cases hg : x.f1 with
      | true =>
        rw [if_pos rfl, if_neg (show ¬ (x.f0.size = 0 ∧ true = false ∧ ¬ (l.drop (i + 1).toNat).map pr44 = []) by simp)]
        rw [hg] at jf
        exact jf
      | false =>
        rw [if_neg (by decide)]
        by_cases hL : i < (l.length : Int) - 1
        · rw [show decide (i < (l.length : Int) - 1) = true by simpa using hL, impl_FoldFlow.j1, if_pos rfl, if_pos (show x.f0.size = 0 ∧ false = false ∧ ¬ (l.drop (i + 1).toNat).map pr44 = [] from ⟨hx, rfl, fun c => (hlast.mp c) hL⟩), ei, w64 (n := many + 1) (by omega) (by omega)]
          have := ih k out glue (many + 1) (i + 1) (by omega) (by omega) (by omega) (by omega) (by omega)
          rw [show (many + 1).toNat = many.toNat + 1 by omega] at this
          exact this
        · rw [show decide (i < (l.length : Int) - 1) = false by simpa using hL, if_neg (show ¬ (x.f0.size = 0 ∧ false = false ∧ ¬ (l.drop (i + 1).toNat).map pr44 = []) from fun c => c.2.2 (hlast.mpr hL))]
          rw [hg] at jf
          exact jf
    · rw [if_neg (fun c => hx (tl_nil.mp c)), if_neg (show ¬ (x.f0.size = 0 ∧ x.f1 = false ∧ ¬ (l.drop (i + 1).toNat).map pr44 = []) from fun c => hx c.1)]
      exact jf
theorem impl_FoldFlow_ok (l : List S44) (hl : l.length ≤ 4194304) (hb : totP (l.map pr44) ≤ 35184372088832) (k : Nat) (hk : 2 * l.length + 2 < k) : impl_FoldFlow.f k l = some (foldFlowM (l.map pr44)) := by
  unfold impl_FoldFlow.f
  cases l with
  | nil => rfl
  | cons x r =>
    rw [if_neg (by simp <;> omega), if_pos (by simp <;> omega)]
    have hpx : pr44 x = (x.f0, x.f1) := rfl
    rw [List.map_cons, hpx] at hb
    simp only [totP] at hb
    have := impl_FoldFlow_l0 (x :: r) hl r.length k x.f0 x.f1 0 1 (by omega) (by simp) (by omega) (by simp at hk <;> omega) (by
      rw [show (1 : Int).toNat = 1 from rfl, List.drop_one, List.tail_cons]; simp at hl; omega)
    rw [show (1 : Int).toNat = 1 from rfl, List.drop_one, List.tail_cons] at this
    exact this

set_option maxRecDepth 100000 in
theorem impl_shortEscape_all : ∀ n : Fin 256, impl_shortEscape.f 10 ((n.val : Nat) : Int) = some ((pickN shortA shortB ((n.val : Nat) : Int)).getD (-1)) := by decide +kernel
theorem impl_shortEscape_ok (b : Int) (h0 : 0 ≤ b) (h1 : b ≤ 255) (k : Nat) (hk : 10 ≤ k) : impl_shortEscape.f k b = some ((pickN shortA shortB b).getD (-1)) := by
  have := impl_shortEscape_all ⟨b.toNat, by omega⟩
  rw [show (((⟨b.toNat, by omega⟩ : Fin 256).val : Nat) : Int) = b by show ((b.toNat : Nat) : Int) = b; omega] at this
  obtain ⟨j, rfl⟩ : ∃ j, k = 10 + j := ⟨k - 10, by omega⟩
  exact more_rounds (g := fun k => impl_shortEscape.f k b) (fun k => impl_shortEscape.mono b k) 10 j _ this

theorem impl_within_ok (a b c : Int) : impl_within.f a b c = some (decide (b ≤ a ∧ a ≤ c)) := by
  unfold impl_within.f
  by_cases h : a ≥ b
  · rw [if_pos h]; simp only [Option.some.injEq, decide_eq_decide]; omega
  · rw [if_neg h]; simp only [Option.some.injEq]; symm; simp only [decide_eq_false_iff_not]; omega

theorem impl_RuneBytes_ok (r : Int) : impl_RuneBytes.f r = some (runeM r) := by
  simp only [impl_RuneBytes.f, impl_within_ok, Option.bind_some, decide_eq_true_eq]
  unfold runeM
  by_cases h : okRune r
  · have h' := h
    obtain ⟨a, b, c⟩ := h'
    have e : wrap32 r = r := by unfold wrap32; omega
    rw [if_pos h, if_pos ⟨a, b⟩, if_neg c, e]
  · rw [if_neg h]
    by_cases c : 0 ≤ r ∧ r ≤ 1114111
    · rw [if_pos c, if_pos (by unfold okRune at h; omega)]
    · rw [if_neg c]

theorem impl_hexValue_l0 (s : ByteArray) (p m : Int) (hs : s.size ≤ 140737488351232) (hp : 0 ≤ p) (hp1 : p ≤ 140737488351240) (hm8 : m ≤ 8) (d : Nat) : ∀ (k : Nat) (i x : Int), 0 ≤ i → i + d = m → 0 ≤ x → x + 1 ≤ cap d → d < k →
    impl_hexValue.l0 k s p x m i = some (match hexN s d (p + i) x with | none => (0, false) | some v => (v, true)) := by
  induction d with
  | zero =>
    intro k i x h0 h1 hx hc hk
    obtain ⟨k, rfl⟩ : ∃ m, k = m + 1 := ⟨k - 1, by omega⟩
    rw [impl_hexValue.l0, if_neg (by omega)]; rfl
  | succ d ih =>
    intro k i x h0 h1 hx hc hk
    obtain ⟨k, rfl⟩ : ∃ m, k = m + 1 := ⟨k - 1, by omega⟩
    have hcap := cap_le d
    unfold cap at hc
    have b0 := byteM_lo s (p + i)
    have b1 := byteM_hi s (p + i)
    rw [impl_hexValue.l0, if_pos (by omega), w64 (n := p + i) (by omega) (by omega), impl_byteAt_ok, Option.bind_some, impl_within_ok, Option.bind_some, impl_within_ok, Option.bind_some, impl_within_ok, Option.bind_some, hexN]
    unfold hexD
    generalize byteM s (p + i) = b at b0 b1 ⊢
    by_cases c1 : 48 ≤ b ∧ b ≤ 57
    · rw [if_pos (decide_eq_true c1), if_pos c1, w64 (n := 16 * x) (by omega) (by omega), w64 (n := 16 * x + b) (by omega) (by omega), w64 (by omega) (by omega), w64 (by omega) (by omega), show 16 * x + b - 48 = 16 * x + (b - 48) by omega]
      have := ih k (i + 1) (16 * x + (b - 48)) (by omega) (by omega) (by omega) (by omega) (by omega)
      rw [← Int.add_assoc] at this
      exact this
    · rw [if_neg (fun h => c1 (of_decide_eq_true h)), if_neg c1]
      by_cases c2 : 97 ≤ b ∧ b ≤ 102
      · rw [if_pos (decide_eq_true c2), if_pos c2, w64 (n := 16 * x) (by omega) (by omega), w64 (n := 16 * x + b) (by omega) (by omega), w64 (n := 16 * x + b - 97) (by omega) (by omega), w64 (by omega) (by omega), w64 (by omega) (by omega), show 16 * x + b - 97 + 10 = 16 * x + (b - 87) by omega]
        have := ih k (i + 1) (16 * x + (b - 87)) (by omega) (by omega) (by omega) (by omega) (by omega)
        rw [← Int.add_assoc] at this
        exact this
      · rw [if_neg (fun h => c2 (of_decide_eq_true h)), if_neg c2]
        by_cases c3 : 65 ≤ b ∧ b ≤ 70
        · rw [if_pos (decide_eq_true c3), if_pos c3, w64 (n := 16 * x) (by omega) (by omega), w64 (n := 16 * x + b) (by omega) (by omega), w64 (n := 16 * x + b - 65) (by omega) (by omega), w64 (by omega) (by omega), w64 (by omega) (by omega), show 16 * x + b - 65 + 10 = 16 * x + (b - 55) by omega]
          have := ih k (i + 1) (16 * x + (b - 55)) (by omega) (by omega) (by omega) (by omega) (by omega)
          rw [← Int.add_assoc] at this
          exact this
        · rw [if_neg (fun h => c3 (of_decide_eq_true h)), if_neg c3]
theorem impl_hexValue_ok (s : ByteArray) (p m : Int) (hs : s.size ≤ 140737488351232) (hp : 0 ≤ p) (hp1 : p ≤ 140737488351240) (hm : 0 ≤ m) (hm8 : m ≤ 8) (k : Nat) (hk : 10 ≤ k) : impl_hexValue.f k s p m = some (match hexN s m.toNat p 0 with | none => (0, false) | some v => (v, true)) := by
  unfold impl_hexValue.f
  have hc : (1 : Int) ≤ cap m.toNat := by
    have : m.toNat = 0 ∨ m.toNat = 1 ∨ m.toNat = 2 ∨ m.toNat = 3 ∨ m.toNat = 4 ∨ m.toNat = 5 ∨ m.toNat = 6 ∨ m.toNat = 7 ∨ m.toNat = 8 := by omega
    rcases this with h | h | h | h | h | h | h | h | h <;> rw [h] <;> decide
  have := impl_hexValue_l0 s p m hs hp hp1 hm8 m.toNat k 0 0 (by omega) (by omega) (by omega) hc (by omega)
  rw [Int.add_zero] at this
  exact this

theorem pick_pos : ∀ (xs ys : List Int), (∀ y ∈ ys, 0 ≤ y) → ∀ b r, pickN xs ys b = some r → 0 ≤ r := by
  intro xs
  induction xs with
  | nil => intro ys _ b r h; cases h
  | cons x xs ih =>
    intro ys hy b r h
    cases ys with
    | nil => cases h
    | cons y ys =>
      unfold pickN at h
      split at h
      · injection h with h; subst h; exact hy y (by simp)
      · exact ih ys (fun z hz => hy z (by simp [hz])) b r h
theorem impl_EscapeAt_ok (s : ByteArray) (p : Int) (hs : s.size ≤ 140737488351232) (k : Nat) (hk : 100 ≤ k) : impl_EscapeAt.f k s p = some (escM s p) := by
  obtain ⟨k, rfl⟩ : ∃ m, k = m + 1 := ⟨k - 1, by omega⟩
  have h0 := spotM_lo s p
  have h1 := spotM_hi s p
  unfold impl_EscapeAt.f escM
  rw [impl_spot_ok, Option.bind_some, impl_byteAt_ok, Option.bind_some]
  generalize spotM s p = q at h0 h1 ⊢
  rw [w64 (n := q + 1) (by omega) (by omega)]
  have jt : impl_EscapeAt.j0 (k + 1) s q true = some ((⟨#[]⟩ : ByteArray), 0) := by rw [impl_EscapeAt.j0, if_pos rfl]
  by_cases c2 : byteM s q = 92
  · rw [if_pos c2]
    by_cases c : q + 1 ≥ (s.size : Int)
    · rw [decide_eq_true c, jt, if_neg (fun h => by omega)]
    · rw [decide_eq_false c, if_pos ⟨c2, by omega⟩, impl_EscapeAt.j0, if_neg (by decide), w64 (n := q + 1) (by omega) (by omega), impl_byteAt_ok, Option.bind_some, byteM_in (by omega) (by omega)]
      have b0 := bt_lo s (q + 1)
      have b1 := bt_hi s (q + 1)
      generalize bt s (q + 1) = b at b0 b1 ⊢
      have m0 := manyM_lo b
      have hpos := pick_pos shortA shortB (by decide) b
      show (impl_shortEscape.f k b).bind _ = _
      rw [impl_shortEscape_ok b b0 b1 k (by omega), Option.bind_some, w64 (n := q + 2) (by omega) (by omega)]
      unfold escBody
      cases hpk : pickN shortA shortB b with
      | some r =>
        have := hpos r hpk
        show (if r ≥ 0 then _ else _) = _
        rw [if_pos (by omega)]
        show (impl_RuneBytes.f r).bind _ = _
        rw [impl_RuneBytes_ok, Option.bind_some]
      | none =>
        show (if (-1 : Int) ≥ 0 then _ else _) = _
        rw [if_neg (by omega)]
        show (impl_hexValue.f k s (q + 2) (manyM b)).bind _ = _
        rw [impl_hexValue_ok s (q + 2) (manyM b) hs (by omega) (by omega) m0.1 m0.2 k (by omega), Option.bind_some, impl_RuneBytes_ok, Option.bind_some]
        show (if manyM b = 0 then _ else _) = some (escTail s q (manyM b))
        unfold escTail
        by_cases c3 : manyM b = 0
        · rw [if_pos c3, if_pos c3]
        · rw [if_neg c3, if_neg c3]
          cases hexN s (manyM b).toNat (q + 2) 0 with
          | none => rfl
          | some x =>
            show (if true = true then (if (runeM x).toList = [] then _ else some (runeM x, wrap64 (q + 2 + manyM b))) else _) = some (if (runeM x).size = 0 then _ else _)
            rw [if_pos rfl, w64 (n := q + 2 + manyM b) (by omega) (by omega)]
            by_cases c4 : (runeM x).size = 0
            · rw [if_pos (tl_nil.mpr c4), if_pos c4]
            · rw [if_neg (fun h => c4 (tl_nil.mp h)), if_neg c4]
  · rw [if_neg c2, jt, if_neg (fun h => c2 h.1)]

theorem totP_snoc (l : List (ByteArray × Bool)) (x : ByteArray × Bool) : totP (l ++ [x]) = totP l + x.1.size := by
  induction l with
  | nil => simp [totP]
  | cons a l ih => rw [List.cons_append, totP, totP, ih]; omega
theorem hexN_in (s : ByteArray) (d : Nat) : ∀ (i x v : Int), 0 ≤ i → hexN s (d + 1) i x = some v → i + d + 1 ≤ (s.size : Int) := by
  induction d with
  | zero =>
    intro i x v h0 h
    rcases Int.lt_or_le i (s.size : Int) with hi | hi
    · omega
    · rw [hexN, byteM_end hi] at h
      cases h
  | succ d ih =>
    intro i x v h0 h
    rw [hexN] at h
    split at h
    · cases h
    · have := ih _ _ _ (by omega) h
      omega
theorem escM_bounds (s : ByteArray) (p : Int) (h0 : 0 ≤ p) (h1 : p < (s.size : Int)) (h : ¬ (escM s p).2 = 0) : p + 2 ≤ (escM s p).2 ∧ (escM s p).2 ≤ (s.size : Int) ∧ (escM s p).1.size ≤ 4 := by
  unfold escM at h ⊢
  rw [spotM_in h0 (by omega)] at h ⊢
  split at h
  · rename_i hc
    rw [if_pos hc]
    unfold escBody at h ⊢
    split
    · exact ⟨by show p + 2 ≤ p + 2; omega, by show p + 2 ≤ _; omega, runeM_size _⟩
    · rename_i hn
      rw [hn] at h
      have hm := manyM_lo (bt s (p + 1))
      simp only at h ⊢
      unfold escTail at h ⊢
      split at h
      · exact absurd rfl h
      · rename_i hz
        rw [if_neg hz]
        cases hx : hexN s (manyM (bt s (p + 1))).toNat (p + 2) 0 with
        | none => rw [hx] at h; exact absurd rfl h
        | some x =>
          rw [hx] at h
          simp only at h ⊢
          split at h
          · exact absurd rfl h
          · rename_i hr
            rw [if_neg hr]
            obtain ⟨e, he⟩ : ∃ e, (manyM (bt s (p + 1))).toNat = e + 1 := ⟨(manyM (bt s (p + 1))).toNat - 1, by omega⟩
            rw [he] at hx
            have := hexN_in s e _ _ _ (by omega) hx
            exact ⟨by show p + 2 ≤ p + 2 + _; omega, by show p + 2 + _ ≤ _; omega, runeM_size _⟩
  · exact absurd rfl h
theorem son_bytes (t : ByteArray) : strOfNums (bytesOf t) = t := by
  apply bext
  simp [strOfNums, bytesOf, Function.comp_def]
theorem bytes_len (t : ByteArray) : (bytesOf t).length = t.size := by
  have := congrArg ByteArray.size (son_bytes t)
  rw [strOfNums_size] at this
  exact this
theorem double_sim (s : ByteArray) (hs : s.size ≤ 1048576) (d : Nat) : ∀ (p : Int) (l : List S44) (cur : List Int) (m : Nat) (k k' : Nat), 0 ≤ p → p ≤ (s.size : Int) → (s.size : Int) - p ≤ d → m ≤ cur.length → (l.length : Int) ≤ p → ((totP (l.map pr44) + cur.length : Nat) : Int) ≤ 4 * p → 4 * d + 20 * s.size + 400 ≤ k → 4 * d + 20 * s.size + 400 ≤ k' →
    ∃ r, spec_DoubleAt.l0 k s l cur m p = some r ∧ impl_DoubleAt.l0 k' s p l (strOfNums cur) (trimN m cur cur.length : Nat) = some r := by
  induction d with
  | zero =>
    intro p l cur m k k' h0 h1 hd hm hl ht hk hk'
    obtain ⟨k, rfl⟩ : ∃ j, k = j + 1 := ⟨k - 1, by omega⟩
    obtain ⟨k', rfl⟩ : ∃ j, k' = j + 1 := ⟨k' - 1, by omega⟩
    exact ⟨((⟨#[]⟩ : ByteArray), (s.size : Int), 3), by rw [spec_DoubleAt.l0, if_neg (by omega)], by rw [impl_DoubleAt.l0, if_neg (by omega)]⟩
  | succ d ih =>
    intro p l cur m k k' h0 h1 hd hm hl ht hk hk'
    obtain ⟨k, rfl⟩ : ∃ j, k = j + 4 := ⟨k - 4, by omega⟩
    obtain ⟨k', rfl⟩ : ∃ j, k' = j + 1 := ⟨k' - 1, by omega⟩
    by_cases hp : p < (s.size : Int)
    · have htr := trimN_le m cur cur.length
      have hsz : (strOfNums cur).size = cur.length := strOfNums_size cur
      have hpl : ∀ x : S44, (l ++ [x]).map pr44 = l.map pr44 ++ [pr44 x] := fun x => by rw [List.map_append]; rfl
      have tail : ∀ (m' : Nat) (p' : Int) (g : Bool), m' ≤ cur.length → p ≤ p' → p' < (s.size : Int) → ∃ r, spec_DoubleAt.j4 (k + 1) s l cur m' p' g = some r ∧ ((impl_MarkAt.f k' s (p' + 1)).bind fun mm => if mm = 0 then ((impl_White.f k' s (p' + 1)).bind fun q => impl_DoubleAt.l0 k' s q (l ++ [⟨strOfNums (cur.take (trimN m' cur cur.length)), g⟩]) ⟨#[]⟩ 0) else (some ((⟨#[]⟩ : ByteArray), p' + 1, 4))) = some r := by
        intro m' p' g hm' hp1 hp2
        have htr' := trimN_le m' cur cur.length
        rw [spec_DoubleAt.j4, spec_l07Cut_ok cur (by omega) m' hm' k (by omega), Option.bind_some, if_pos (by omega), w64 (n := p' + 1) (by omega) (by omega), spec_MarkAt_ok s (p' + 1) (by omega) k (by omega), Option.bind_some, impl_MarkAt_ok s (p' + 1) (by omega) k' (by omega), Option.bind_some]
        have hmk : markM s (p' + 1) = 0 ∨ markM s (p' + 1) = 1 ∨ markM s (p' + 1) = 2 := by
          unfold markM
          split
          · split
            · exact .inr (.inl rfl)
            · split
              · exact .inr (.inr rfl)
              · exact .inl rfl
          · exact .inl rfl
        by_cases cm : markM s (p' + 1) = 0
        · rw [if_neg (by omega), if_pos cm, spec_White_ok s (p' + 1) (by omega) k (by omega), Option.bind_some, impl_White_ok s (p' + 1) (by omega) k' (by omega), Option.bind_some]
          have g1 := whiteM_ge s (p' + 1)
          have g2 := whiteM_le s (p' + 1)
          rw [spotM_in (by omega) (by omega)] at g1
          rw [w64 (n := whiteM s (p' + 1) - 1) (by omega) (by omega), show whiteM s (p' + 1) - 1 + 1 = whiteM s (p' + 1) by omega, w64 (n := whiteM s (p' + 1)) (by omega) (by omega)]
          have hts : (strOfNums (cur.take (trimN m' cur cur.length))).size = trimN m' cur cur.length := by rw [strOfNums_size, List.length_take]; omega
          obtain ⟨r, e1, e2⟩ := ih (whiteM s (p' + 1)) (l ++ [⟨strOfNums (cur.take (trimN m' cur cur.length)), g⟩]) [] 0 k k' (by omega) (by omega) (by omega) (Nat.le_refl _) (by rw [List.length_append, List.length_singleton]; omega) (by
            rw [hpl, totP_snoc]
            show ((_ + (strOfNums (cur.take (trimN m' cur cur.length))).size + ([] : List Int).length : Nat) : Int) ≤ _
            rw [hts, List.length_nil]
            omega) (by omega) (by omega)
          exact ⟨r, e1, e2⟩
        · rw [if_pos (by omega), if_neg cm]
          exact ⟨_, rfl, rfl⟩
      have hcond : (0 ≤ p ∧ 0 ≤ ((trimN m cur cur.length : Nat) : Int) ∧ ((trimN m cur cur.length : Nat) : Int) ≤ ((strOfNums cur).size : Int) ∧ (l.length + 1) * 24 ≤ 140737488355328 ∧ (strOfNums cur).size + 1 ≤ 9223372036854775807) := by rw [hsz]; omega
      rw [spec_DoubleAt.l0, if_pos hp, if_pos h0, impl_DoubleAt.l0, if_pos hp, if_pos hcond, w64 (n := p + 1) (by omega) (by omega)]
      have hb2 : (if p + 1 < (s.size : Int) then (if 0 ≤ p + 1 then spec_DoubleAt.j2 (k + 3) s l cur m p (bt s (p + 1) == 10) else none) else spec_DoubleAt.j2 (k + 3) s l cur m p false) = spec_DoubleAt.j2 (k + 3) s l cur m p (decide (byteM s (p + 1) = 10)) := by
        by_cases h2 : p + 1 < (s.size : Int)
        · rw [if_pos h2, if_pos (by omega), byteM_in (by omega) h2]
          congr 1
        · rw [if_neg h2, byteM_end (by omega)]
          rfl
      rw [hb2]
      by_cases c10 : bt s p = 10
      · have c92 : ¬ bt s p = 92 := by omega
        have c34 : ¬ bt s p = 34 := by omega
        rw [if_neg c92, if_pos c10, spec_DoubleAt.j2, if_pos h0, if_pos hp, if_neg c34, if_pos c10, spec_DoubleAt.j3, if_pos rfl, if_neg (by decide), show ((trimN m cur cur.length : Nat) : Int).toNat = trimN m cur cur.length by omega, son_take cur _ htr]
        exact tail m p false hm (Int.le_refl _) hp
      · rw [if_neg c10]
        by_cases c92 : bt s p = 92
        · have c34 : ¬ bt s p = 34 := by omega
          rw [if_pos c92, if_pos c92, impl_byteAt_ok s (p + 1), Option.bind_some]
          by_cases b2 : byteM s (p + 1) = 10
          · have hlt : p + 1 < (s.size : Int) := by
              rcases Int.lt_or_le (p + 1) (s.size : Int) with h | h
              · exact h
              · rw [byteM_end h] at b2; omega
            rw [if_pos b2, show decide (byteM s (p + 1) = 10) = true by simpa using b2, spec_DoubleAt.j2, if_pos h0, if_pos hp, if_neg c34, if_neg c10, spec_DoubleAt.j3, if_pos rfl, if_pos rfl, w64 (n := p + 1) (by omega) (by omega), w64 (n := p + 1 + 1) (by omega) (by omega)]
            obtain ⟨r, e1, e2⟩ := tail cur.length (p + 1) true (Nat.le_refl _) (by omega) hlt
            rw [trimN_all, List.take_length] at e2
            exact ⟨r, e1, e2⟩
          · rw [if_neg b2, show decide (byteM s (p + 1) = 10) = false by simpa using b2, spec_DoubleAt.j2, if_pos h0, if_pos hp, if_neg c34, if_neg c10, spec_DoubleAt.j3, if_neg (by decide), if_pos h0, if_pos hp, if_pos c92, spec_EscapeAt_ok s p (by omega) _ (by omega), Option.bind_some, impl_EscapeAt_ok s p (by omega) _ (by omega), Option.bind_some, Option.bind_some]
            by_cases ce : (escM s p).2 = 0
            · rw [if_pos ce, if_pos ce]
              exact ⟨_, rfl, rfl⟩
            · obtain ⟨e1, e2, e3⟩ := escM_bounds s p h0 hp ce
              rw [if_neg ce, if_neg ce, if_pos (by omega), if_pos (by rw [hsz]; omega)]
              rw [w64 (n := (escM s p).2 - 1) (by omega) (by omega), show (escM s p).2 - 1 + 1 = (escM s p).2 by omega, w64 (n := (escM s p).2) (by omega) (by omega), w64 (n := (escM s p).2 - p) (by omega) (by omega), show p + ((escM s p).2 - p) = (escM s p).2 by omega, w64 (n := (escM s p).2) (by omega) (by omega)]
              have hbl := bytes_len (escM s p).1
              obtain ⟨r, q1, q2⟩ := ih (escM s p).2 l (cur ++ bytesOf (escM s p).1) (cur ++ bytesOf (escM s p).1).length (k + 1) k' (by omega) (by omega) (by omega) (Nat.le_refl _) (by omega) (by rw [List.length_append, hbl]; omega) (by omega) (by omega)
              rw [trimN_all, son_app, son_bytes] at q2
              refine ⟨r, q1, ?_⟩
              rw [size_app, hsz, ← hbl, ← List.length_append]
              exact q2
        · rw [if_neg c92, if_neg c92, spec_DoubleAt.j2, if_pos h0, if_pos hp]
          by_cases c34 : bt s p = 34
          · rw [if_pos c34, if_pos c34, if_pos (by omega)]
            have hf : totP ((l ++ [(⟨strOfNums cur, false⟩ : S44)]).map pr44) ≤ 35184372088832 := by
              rw [hpl, totP_snoc]
              show _ + (strOfNums cur).size ≤ _
              omega
            have hll : (l ++ [(⟨strOfNums cur, false⟩ : S44)]).length = l.length + 1 := by rw [List.length_append, List.length_singleton]
            rw [spec_FoldFlow_ok _ (by omega) hf _ (by omega), impl_FoldFlow_ok _ (by omega) hf k' (by omega)]
            simp only [Option.bind_some]
            rw [w64 (n := p + 1) (by omega) (by omega)]
            exact ⟨_, rfl, rfl⟩
          · rw [if_neg c34, if_neg c34, if_neg c10, spec_DoubleAt.j3, if_neg (by decide), if_pos h0, if_pos hp, if_neg c92, if_pos (by omega), impl_isWhite_ok, Option.bind_some, w64 (n := p + 1) (by omega) (by omega)]
            obtain ⟨r, e1, e2⟩ := ih (p + 1) l (cur ++ [bt s p]) m (k + 1) k' (by omega) (by omega) (by omega) (by rw [List.length_append, List.length_singleton]; omega) (by omega) (by rw [List.length_append, List.length_singleton]; omega) (by omega) (by omega)
            refine ⟨r, e1, ?_⟩
            rw [trimN_push m cur (bt s p) hm, son_app] at e2
            rw [size_app, hsz, show (strOfNums [bt s p]).size = 1 from strOfNums_size _]
            by_cases hw : whB (bt s p) = true
            · rw [if_pos hw] at e2 ⊢
              exact e2
            · rw [if_neg hw] at e2 ⊢
              exact e2
    · exact ⟨((⟨#[]⟩ : ByteArray), (s.size : Int), 3), by rw [spec_DoubleAt.l0, if_neg (by omega)], by rw [impl_DoubleAt.l0, if_neg (by omega)]⟩
theorem FnExactDoubleAt : laws_FnExactDoubleAt.Pure := by
  intro s p hs hp
  by_cases h : (s.size : Int) > 1048576
  · exact ⟨0, by simp only [laws_FnExactDoubleAt.f, if_pos h]⟩
  · refine ⟨40 * s.size + 1000, ?_⟩
    have hlo := spotM_lo s p
    have hhi := spotM_hi s p
    have hsp : spec_l01P.f s p = some (spotM s p) := spec_l01P_ok s p
    have him : impl_spot.f s p = some (spotM s p) := impl_spot_ok s p
    suffices hh : ∃ r, spec_DoubleAt.f (40 * s.size + 1000) s p = some r ∧ impl_DoubleAt.f (40 * s.size + 1000) s p = some r by
      obtain ⟨r, e1, e2⟩ := hh
      unfold laws_FnExactDoubleAt.f
      rw [if_neg h, e1, e2]
      simp
    unfold spec_DoubleAt.f impl_DoubleAt.f
    rw [hsp, him, Option.bind_some, Option.bind_some, impl_byteAt_ok, Option.bind_some]
    obtain ⟨k, hk⟩ : ∃ k, 40 * s.size + 1000 = k + 1 := ⟨40 * s.size + 999, by omega⟩
    by_cases hq : spotM s p ≥ (s.size : Int)
    · rw [if_pos hq, byteM_end hq, if_neg (by decide), hk, spec_DoubleAt.j0, if_pos rfl]
      exact ⟨_, rfl, rfl⟩
    · rw [if_neg hq, if_pos hlo, if_pos (by omega), byteM_in hlo (by omega), hk, spec_DoubleAt.j0]
      by_cases c34 : bt s (spotM s p) = 34
      · rw [if_pos c34, if_neg (by simp [c34]), w64 (n := spotM s p + 1) (by omega) (by omega)]
        obtain ⟨r, e1, e2⟩ := double_sim s (by omega) s.size (spotM s p + 1) [] [] 0 k (k + 1) (by omega) (by omega) (by omega) (Nat.le_refl _) (by simp; omega) (by simp [totP]; omega) (by omega) (by omega)
        exact ⟨r, e1, e2⟩
      · rw [if_neg c34, if_pos (by simpa using c34)]
        exact ⟨_, rfl, rfl⟩

end Go.Proofs.Ytacmlggiklkbiaa.Pure
