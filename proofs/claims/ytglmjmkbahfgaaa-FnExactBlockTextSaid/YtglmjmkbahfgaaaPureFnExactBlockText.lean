/- For all lines that are at most 2^20 bytes together, both ways and every chomping, the program's BlockText answers as the reference's does; no condition beyond the statement's own. -/
import Derived.Test.YtglmjmkbahfgaaaPFnExactBlockTextx0
import Derived.Test.YtglmjmkbahfgaaaPFnExactBlockTextx1
import Derived.Test.YtglmjmkbahfgaaaPFnExactBlockTextx2
import Derived.Test.YtglmjmkbahfgaaaPFnExactBlockTextx3
import Derived.Test.YtglmjmkbahfgaaaPFnExactBlockTextx4
import Derived.Test.YtglmjmkbahfgaaaPFnExactBlockTextx5
import Derived.Test.YtglmjmkbahfgaaaBlk
import Derived.Test.YtglmjmkbahfgaaaLst
import Derived.Test.YtglmjmkbahfgaaaMine
import Derived.Test.YtglmjmkbahfgaaaTxt
namespace Go.Proofs.Ytglmjmkbahfgaaa.Pure
open Go.RowKit Go.Proofs.Ytglmjmkbahfgaaa.PFnExactBlockText Go.Proofs.YtglmjmkbahfgaaaW.PrintWords Go.Proofs.YtglmjmkbahfgaaaW.PrintLast Go.Proofs.YtglmjmkbahfgaaaW.PrintMore Go.Proofs.Ytglmjmkbahfgaaa.Mine

theorem strings_Repeat_nl (n : Int) (h0 : 0 ≤ n) (h1 : n ≤ 70368744177664) : strings_Repeat.f (⟨#[10]⟩ : ByteArray) n = some (nl n.toNat) := by
  unfold strings_Repeat.f
  have hz : (⟨#[10]⟩ : ByteArray).size = 1 := rfl
  rw [if_pos ⟨h0, by omega, by rw [hz]; omega⟩, repeatL_nl]

theorem strings_Join_nl (l : List ByteArray) (h0 : 0 < l.length) (h1 : l.length ≤ 4194304) (hb : totS l ≤ 35184372088832) : strings_Join.f l (⟨#[10]⟩ : ByteArray) = some (keepM l) := by
  unfold strings_Join.f
  have e : (Lib.join (l.map (·.data.toList)) (⟨#[10]⟩ : ByteArray).data.toList).length = (keepM l).size := by rw [← join_keep, ← size_dl]
  have hs := keepM_size l
  rw [if_pos ⟨h0, by omega, by rw [e]; omega⟩]
  exact congrArg some (join_keep l)

theorem impl_spot_ok (s : ByteArray) (p : Int) : impl_spot.f s p = some (spotM s p) := by
  unfold impl_spot.f; rw [mn_mx_spotM]

theorem impl_byteAt_ok (s : ByteArray) (p : Int) : impl_byteAt.f s p = some (byteM s p) := by
  have h0 := spotM_lo s p
  have h1 := spotM_hi s p
  have h2 := bt_lo s (spotM s p)
  have h3 := bt_hi s (spotM s p)
  simp only [impl_byteAt.f, impl_spot_ok, Option.bind_some]
  unfold byteM
  by_cases h : spotM s p = (s.size : Int)
  · rw [if_pos h, if_pos h]
  · rw [if_neg h, if_neg h, if_pos h0, if_pos (by omega), w64 (by omega) (by omega)]

theorem impl_isWhite_ok (b : Int) : impl_isWhite.f b = some (whB b) := by
  unfold impl_isWhite.f
  by_cases h : b = 32
  · rw [if_pos h, whB_iff.mpr (.inl h)]
  · rw [if_neg h]
    by_cases h9 : b = 9
    · rw [h9]; rfl
    · rw [whB_not.mpr (by omega)]; simp [h9]

theorem impl_isFar_ok (s : ByteArray) : impl_isFar.f s = some (far s) := by
  simp only [impl_isFar.f, impl_byteAt_ok, impl_isWhite_ok, Option.bind_some]; rfl

theorem impl_FoldBlock_l0 (l : List ByteArray) (hl : l.length ≤ 4194304) (d : Nat) : ∀ (k : Nat) (out last : ByteArray) (many i : Int), 0 ≤ i → (l.length : Int) - i = d → 0 ≤ many → 2 * d < k →
    (out.size : Int) + many + totS (l.drop i.toNat) + 2 * d ≤ 70368744177664 →
    impl_FoldBlock.l0 k out last many l (l.length : Int) i = some (fbN out last many.toNat (l.drop i.toNat)) := by
  induction d with
  | zero =>
    intro k out last many i h0 hd hm hk hb
    obtain ⟨k, rfl⟩ : ∃ m, k = m + 1 := ⟨k - 1, by omega⟩
    rw [impl_FoldBlock.l0, if_neg (by omega), drop_end _ _ (by omega)]
    rfl
  | succ d ih =>
    intro k out last many i h0 hd hm hk hb
    obtain ⟨k, rfl⟩ : ∃ m, k = m + 2 := ⟨k - 2, by omega⟩
    have hi : i < (l.length : Int) := by omega
    have hdr : l.drop i.toNat = rdOf ByteArray.empty l i :: l.drop (i + 1).toNat := drop_at ByteArray.empty l i h0 hi
    rw [hdr] at hb ⊢
    rw [impl_FoldBlock.l0, if_pos hi, if_pos h0, if_pos hi]
    generalize rdOf ByteArray.empty l i = x at hb ⊢
    simp only [totS] at hb
    simp only [fbN, impl_isFar_ok, Option.bind_some]
    have ei : wrap64 (i + 1) = i + 1 := w64 (by omega) (by omega)
    by_cases hx : x.size = 0
    · rw [if_pos (tl_nil.mpr hx), if_pos hx, w64 (n := many + 1) (by omega) (by omega), ei]
      have := ih (k + 1) out last (many + 1) (i + 1) (by omega) (by omega) (by omega) (by omega) (by omega)
      rw [show (many + 1).toNat = many.toNat + 1 by omega] at this
      exact this
    · rw [if_neg (fun c => hx (tl_nil.mp c)), if_neg hx]
      have rest : ∀ (s : ByteArray) (k' : Nat), 2 * d < k' → s.size ≤ many.toNat + 1 → (if out.size + s.size ≤ 9223372036854775807 then (if (out ++ s).size + x.size ≤ 9223372036854775807 then (impl_FoldBlock.l0 k' ((out ++ s) ++ x) x 0 l (l.length : Int) (i + 1)) else (none)) else (none)) = some (fbN (out ++ s ++ x) x 0 (l.drop (i + 1).toNat)) := fun s k' hk' hs => by
        rw [if_pos (by omega), if_pos (by rw [size_app]; omega)]
        exact ih k' _ x 0 (i + 1) (by omega) (by omega) (by omega) hk' (by rw [size_app, size_app]; omega)
      by_cases hlast : last.size = 0
      · rw [if_pos (tl_nil.mpr hlast), strings_Repeat_nl many hm (by omega), Option.bind_some, ei]
        unfold fbSep
        rw [if_pos hlast]
        exact rest (nl many.toNat) (k + 1) (by omega) (by rw [nl_size]; omega)
      · rw [if_neg (fun c => hlast (tl_nil.mp c))]
        have key : ∀ b : Bool, (far last || far x) = b → impl_FoldBlock.j1 (k + 1) out many x l (l.length : Int) i b = some (fbN (out ++ fbSep last many.toNat x ++ x) x 0 (l.drop (i + 1).toNat)) := fun b hb2 => by
          unfold fbSep
          rw [if_neg hlast, hb2, impl_FoldBlock.j1, ei]
          cases b with
          | true =>
            rw [if_pos rfl, if_pos rfl, w64 (n := many + 1) (by omega) (by omega), strings_Repeat_nl (many + 1) (by omega) (by omega), Option.bind_some, show (many + 1).toNat = many.toNat + 1 by omega]
            exact rest (nl (many.toNat + 1)) k (by omega) (by rw [nl_size]; omega)
          | false =>
            rw [if_neg (by decide), if_neg (show ¬ (false = true) by decide)]
            by_cases hz : many = 0
            · rw [if_pos hz, if_pos (show many.toNat = 0 by omega)]
              exact rest sp k (by omega) (by rw [sp_size]; omega)
            · rw [if_neg hz, if_neg (show ¬ many.toNat = 0 by omega), strings_Repeat_nl many hm (by omega), Option.bind_some]
              exact rest (nl many.toNat) k (by omega) (by rw [nl_size]; omega)
        cases hf : far last with
        | true => rw [if_pos rfl]; exact key true (by rw [hf]; rfl)
        | false => rw [if_neg (by decide)]; exact key (far x) (by rw [hf]; rfl)
theorem impl_FoldBlock_ok (l : List ByteArray) (hl : l.length ≤ 4194304) (hb : totS l ≤ 35184372088832) (k : Nat) (hk : 2 * l.length < k) : impl_FoldBlock.f k l = some (foldBlockM l) := by
  have := impl_FoldBlock_l0 l hl l.length k ⟨#[]⟩ ⟨#[]⟩ 0 0 (by omega) (by omega) (by omega) hk (by rw [show (0 : Int).toNat = 0 from rfl, List.drop_zero, size_none]; omega)
  exact this

theorem impl_BlockText_j2 (l : List ByteArray) (chomp : Int) (n : Nat) (body : ByteArray) (hl : l.length ≤ 4194304) (hn : n ≤ l.length) (hb : body.size ≤ 70368744177664) (k : Nat) (hk : 1 ≤ k) :
    impl_BlockText.j2 k l chomp (n : Int) body = some (if chomp = 1 then body else if chomp = 2 then body ++ nl (1 + l.length - n) else body ++ nl 1) := by
  obtain ⟨k, rfl⟩ : ∃ m, k = m + 1 := ⟨k - 1, by omega⟩
  rw [impl_BlockText.j2]
  by_cases c1 : chomp = 1
  · rw [if_pos c1, if_pos c1]
  · rw [if_neg c1, if_neg c1]
    by_cases c2 : chomp = 2
    · rw [if_pos c2, if_pos c2, w64 (n := 1 + (l.length : Int)) (by omega) (by omega), w64 (by omega) (by omega), strings_Repeat_nl _ (by omega) (by omega), Option.bind_some, if_pos (by rw [nl_size]; omega)]
      rw [show (1 + (l.length : Int) - n).toNat = 1 + l.length - n by omega]
    · rw [if_neg c2, if_neg c2, if_pos (by omega), nl_one]
theorem impl_BlockText_j1 (l : List ByteArray) (folded : Bool) (chomp : Int) (hl : l.length ≤ 4194304) (hb : totS l ≤ 4194304) (n : Nat) (hn : n = trimN l l.length) (k : Nat) (hk : 2 * l.length + 10 ≤ k) :
    impl_BlockText.j1 k l folded chomp (n : Int) = some (blockM l folded chomp) := by
  obtain ⟨k, rfl⟩ : ∃ m, k = m + 1 := ⟨k - 1, by omega⟩
  have hle := trimN_le l l.length
  unfold blockM
  rw [← hn] at hle ⊢
  rw [impl_BlockText.j1]
  by_cases c0 : n = 0
  · rw [if_pos (by omega), if_pos c0]
    by_cases c2 : chomp = 2
    · rw [if_pos c2, if_pos c2, strings_Repeat_nl _ (by omega) (by omega), Option.bind_some, show ((l.length : Nat) : Int).toNat = l.length by omega]
    · rw [if_neg c2, if_neg c2]
  · have ht := totS_take l n
    have h1 : (l.take n).length = n := by rw [List.length_take]; omega
    have s1 := keepM_size (l.take n)
    have s2 := foldBlockM_size (l.take n)
    rw [if_neg (by omega), if_neg c0, if_pos (by omega), if_pos (by omega), show ((n : Nat) : Int).toNat = n by omega, strings_Join_nl _ (by omega) (by omega) (by omega), Option.bind_some]
    cases folded with
    | false =>
      rw [if_neg (by decide), impl_BlockText_j2 l chomp n _ hl hle (by omega) k (by omega)]
      simp only [Bool.false_eq_true, if_false]
    | true =>
      rw [if_pos rfl, impl_FoldBlock_ok _ (by omega) (by omega) k (by omega), Option.bind_some, impl_BlockText_j2 l chomp n _ hl hle (by omega) k (by omega)]
      simp only [if_true]
theorem impl_BlockText_l0 (l : List ByteArray) (folded : Bool) (chomp : Int) (hl : l.length ≤ 4194304) (hb : totS l ≤ 4194304) (n : Nat) : ∀ (k : Nat), n ≤ l.length → trimN l n = trimN l l.length → 2 * l.length + 20 + n ≤ k →
    impl_BlockText.l0 k l folded chomp (n : Int) = some (blockM l folded chomp) := by
  induction n with
  | zero =>
    intro k hn ht hk
    obtain ⟨k, rfl⟩ : ∃ m, k = m + 1 := ⟨k - 1, by omega⟩
    rw [impl_BlockText.l0, if_neg (by omega)]
    exact impl_BlockText_j1 l folded chomp hl hb 0 ht k (by omega)
  | succ n ih =>
    intro k hn ht hk
    obtain ⟨k, rfl⟩ : ∃ m, k = m + 1 := ⟨k - 1, by omega⟩
    rw [impl_BlockText.l0, if_pos (by omega), w64 (by omega) (by omega), show ((n + 1 : Nat) : Int) - 1 = (n : Int) by omega, if_pos (by omega), if_pos (by omega)]
    have e : rdOf ByteArray.empty l (n : Int) = l.getD n ByteArray.empty := by unfold rdOf; rw [show ((n : Nat) : Int).toNat = n by omega]
    rw [e]
    rw [trimN_succ] at ht
    by_cases c : (l.getD n ByteArray.empty).size = 0
    · rw [if_pos c] at ht
      rw [if_pos (tl_nil.mpr c)]
      exact ih k (by omega) ht (by omega)
    · rw [if_neg c] at ht
      rw [if_neg (fun h => c (tl_nil.mp h))]
      exact impl_BlockText_j1 l folded chomp hl hb (n + 1) ht k (by omega)
theorem impl_BlockText_ok (l : List ByteArray) (folded : Bool) (chomp : Int) (hl : l.length ≤ 4194304) (hb : totS l ≤ 4194304) (k : Nat) (hk : 3 * l.length + 20 ≤ k) : impl_BlockText.f k l folded chomp = some (blockM l folded chomp) := by
  unfold impl_BlockText.f
  exact impl_BlockText_l0 l folded chomp hl hb l.length k (Nat.le_refl _) rfl (by omega)

theorem laws_szStringS_l0 (l : List ByteArray) (hl : l.length ≤ 9223372036854775807) (hb : ∀ a ∈ l, a.size ≤ 9223372036854775807) (d : Nat) : ∀ (k : Nat) (x i : Int), 0 ≤ i → (l.length : Int) - i = d → 0 ≤ x → x ≤ 1048576 → d < k →
    ∃ r, laws_szStringS.l0 k l x i = some r ∧ (r < 0 ∨ (totS (l.drop i.toNat) : Int) ≤ x) := by
  induction d with
  | zero =>
    intro k x i h0 hd hx hx1 hk
    obtain ⟨k, rfl⟩ : ∃ m, k = m + 1 := ⟨k - 1, by omega⟩
    refine ⟨x, by rw [laws_szStringS.l0, if_neg (by omega)], .inr ?_⟩
    rw [drop_end _ _ (by omega)]
    exact hx
  | succ d ih =>
    intro k x i h0 hd hx hx1 hk
    obtain ⟨k, rfl⟩ : ∃ m, k = m + 1 := ⟨k - 1, by omega⟩
    have hi : i < (l.length : Int) := by omega
    have hm : (rdOf ByteArray.empty l i).size ≤ 9223372036854775807 := by
      have := getD_some ByteArray.empty l i h0 hi
      exact hb _ (List.mem_of_getElem? this)
    have e : wrap64 (x - ((rdOf ByteArray.empty l i).size : Int)) = x - (rdOf ByteArray.empty l i).size := w64 (by omega) (by omega)
    rw [laws_szStringS.l0, if_pos hi, if_pos h0, e, w64 (n := i + 1) (by omega) (by omega)]
    by_cases hn : x - ((rdOf ByteArray.empty l i).size : Int) < 0
    · rw [if_pos hn]
      exact ⟨-1, rfl, .inl (by omega)⟩
    · rw [if_neg hn]
      obtain ⟨r, hr, hs⟩ := ih k (x - (rdOf ByteArray.empty l i).size) (i + 1) (by omega) (by omega) (by omega) (by omega) (by omega)
      refine ⟨r, hr, hs.imp id fun h => ?_⟩
      rw [drop_at ByteArray.empty l i h0 hi]
      show (((rdOf ByteArray.empty l i).size + totS (l.drop (i + 1).toNat) : Nat) : Int) ≤ x
      omega
theorem laws_szStringS_ok (l : List ByteArray) (hl : l.length ≤ 9223372036854775807) (hb : ∀ a ∈ l, a.size ≤ 9223372036854775807) (k : Nat) (hk : l.length < k) :
    ∃ r, laws_szStringS.f k l 1048576 = some r ∧ (r < 0 ∨ l.length + totS l ≤ 1048576) := by
  unfold laws_szStringS.f
  rw [w64 (by omega) (by omega)]
  by_cases hn : (1048576 : Int) - (l.length : Int) < 0
  · rw [if_pos hn]
    exact ⟨-1, rfl, .inl (by omega)⟩
  · rw [if_neg hn]
    obtain ⟨r, hr, hs⟩ := laws_szStringS_l0 l hl hb l.length k (1048576 - (l.length : Int)) 0 (by omega) (by omega) (by omega) (by omega) hk
    refine ⟨r, hr, hs.imp id fun h => ?_⟩
    rw [show (0 : Int).toNat = 0 from rfl, List.drop_zero] at h
    omega

theorem spec_l03White_in (s : ByteArray) (p : Int) (h0 : 0 ≤ p) (h1 : p < s.size) : spec_l03White.f s p = some (whB (bt s p)) := by
  simp (disch := omega) only [spec_l03White.f, if_pos]
  by_cases h : bt s p = 32
  · rw [if_pos h, whB_iff.mpr (.inl h)]
  · rw [if_neg h]
    by_cases h9 : bt s p = 9
    · rw [h9]; rfl
    · rw [whB_not.mpr (by omega)]; simp [h9]
theorem spec_l03White_end (s : ByteArray) (p : Int) (h1 : (s.size : Int) ≤ p) : spec_l03White.f s p = some false := by
  simp (disch := omega) only [spec_l03White.f, if_neg]
theorem spec_l03White_ok (s : ByteArray) (p : Int) (h0 : 0 ≤ p) : spec_l03White.f s p = some (whB (byteM s p)) := by
  by_cases h : p < s.size
  · rw [spec_l03White_in s p h0 h, byteM_in h0 h]
  · rw [spec_l03White_end s p (by omega), byteM_end (by omega)]; rfl

theorem spec_l05Far_ok (s : ByteArray) : spec_l05Far.f s = some (far s) := by
  simp only [spec_l05Far.f, spec_l03White_ok s 0 (by omega), Option.bind_some]; rfl

theorem spec_FoldBlock_l1 (l : List ByteArray) (x6 : Int) (x : ByteArray) (i len : Int) (n : Nat) : ∀ (k : Nat) (out : ByteArray), (out.size : Int) + n + x.size ≤ 70368744177664 →
    spec_FoldBlock.l1 (k + n + 1) l out (n : Int) x6 x l len i = spec_FoldBlock.l0 k l (out ++ nl n ++ x) 0 x6 l len (wrap64 (i + 1)) := by
  induction n with
  | zero =>
    intro k out hb
    rw [show k + 0 + 1 = k + 1 by omega, spec_FoldBlock.l1, if_neg (by omega), if_pos (by omega), nl_zero, app_nil]
    rfl
  | succ n ih =>
    intro k out hb
    have hz : (⟨#[10]⟩ : ByteArray).size = 1 := rfl
    rw [show k + (n + 1) + 1 = (k + n + 1) + 1 by omega, spec_FoldBlock.l1, if_pos (by omega), if_pos (by omega), show (((n + 1 : Nat) : Int) - 1) = (n : Int) by omega, w64 (by omega) (by omega), ih k _ (by rw [size_app, hz]; omega)]
    rw [show (⟨#[10]⟩ : ByteArray) = nl 1 from rfl, app_assoc out (nl 1) (nl n), nl_add, show 1 + n = n + 1 by omega]
theorem spec_FoldBlock_l0 (l : List ByteArray) (hl : l.length ≤ 4194304) (d : Nat) : ∀ (k : Nat) (out last : ByteArray) (many lastAt i : Int), 0 ≤ i → (l.length : Int) - i = d → 0 ≤ many → 10 * (d : Int) + many + 10 ≤ k →
    ((lastAt = -1 ∧ last.size = 0) ∨ (0 ≤ lastAt ∧ lastAt < (l.length : Int) ∧ rdOf ByteArray.empty l lastAt = last ∧ ¬ last.size = 0)) →
    (out.size : Int) + many + totS (l.drop i.toNat) + 2 * d ≤ 70368744177664 →
    spec_FoldBlock.l0 k l out many lastAt l (l.length : Int) i = some (fbN out last many.toNat (l.drop i.toNat)) := by
  induction d with
  | zero =>
    intro k out last many lastAt i h0 hd hm hk hla hb
    obtain ⟨k, rfl⟩ : ∃ m, k = m + 1 := ⟨k - 1, by omega⟩
    rw [spec_FoldBlock.l0, if_neg (by omega), drop_end _ _ (by omega)]
    rfl
  | succ d ih =>
    intro k out last many lastAt i h0 hd hm hk hla hb
    have hi : i < (l.length : Int) := by omega
    have hdr : l.drop i.toNat = rdOf ByteArray.empty l i :: l.drop (i + 1).toNat := drop_at ByteArray.empty l i h0 hi
    have hrd : rdOf ByteArray.empty l i = rdOf ByteArray.empty l i := rfl
    rw [hdr] at hb ⊢
    have ei : wrap64 (i + 1) = i + 1 := w64 (by omega) (by omega)
    by_cases hx : (rdOf ByteArray.empty l i).size = 0
    · obtain ⟨k, rfl⟩ : ∃ m, k = m + 1 := ⟨k - 1, by omega⟩
      simp only [totS] at hb
      rw [spec_FoldBlock.l0, if_pos hi, if_pos h0, if_pos hi, if_pos (tl_nil.mpr hx), w64 (n := many + 1) (by omega) (by omega), ei]
      simp only [fbN]
      rw [if_pos hx]
      have := ih k out last (many + 1) lastAt (i + 1) (by omega) (by omega) (by omega) (by omega) hla (by omega)
      rw [show (many + 1).toNat = many.toNat + 1 by omega] at this
      exact this
    · have fin : ∀ (m : Nat) (o : ByteArray) (k' : Nat), m ≤ many.toNat + 1 → o.size + m ≤ out.size + many.toNat + 1 → 10 * (d : Int) + m + 11 ≤ k' →
          spec_FoldBlock.l1 k' l o (m : Int) i (rdOf ByteArray.empty l i) l (l.length : Int) i = some (fbN (o ++ nl m ++ rdOf ByteArray.empty l i) (rdOf ByteArray.empty l i) 0 (l.drop (i + 1).toNat)) := fun m o k' hm1 hs hk' => by
        simp only [totS] at hb
        obtain ⟨k'', rfl⟩ : ∃ q, k' = q + m + 1 := ⟨k' - m - 1, by omega⟩
        rw [spec_FoldBlock_l1 l i _ i _ m k'' o (by omega), ei]
        exact ih k'' _ (rdOf ByteArray.empty l i) 0 i (i + 1) (by omega) (by omega) (by omega) (by omega) (.inr ⟨h0, hi, rfl, hx⟩) (by rw [size_app, size_app, nl_size]; omega)
      obtain ⟨k, rfl⟩ : ∃ m, k = m + 6 := ⟨k - 6, by omega⟩
      rw [spec_FoldBlock.l0, if_pos hi, if_pos h0, if_pos hi, if_neg (fun c => hx (tl_nil.mp c))]
      simp only [fbN]
      rw [if_neg hx]
      rcases hla with ⟨ha, hz⟩ | ⟨ha0, ha1, hrl, hz⟩
      · rw [if_neg (by omega), spec_FoldBlock.j1, if_neg (by decide), spec_FoldBlock.j2, if_neg (by omega), spec_FoldBlock.j3, if_neg (by decide), spec_FoldBlock.j4]
        have hsep : fbSep last many.toNat (rdOf ByteArray.empty l i) = nl many.toNat := by unfold fbSep; rw [if_pos hz]
        rw [hsep]
        have := fin many.toNat out (k + 1) (by omega) (by omega) (by omega)
        rw [show (many.toNat : Int) = many by omega] at this
        exact this
      · rw [if_pos (by omega), spec_l05Far_ok, Option.bind_some]
        have key : ∀ b : Bool, (far last || far (rdOf ByteArray.empty l i)) = b → spec_FoldBlock.j1 (k + 5) l out many lastAt i (rdOf ByteArray.empty l i) l (l.length : Int) i b = some (fbN (out ++ fbSep last many.toNat (rdOf ByteArray.empty l i) ++ rdOf ByteArray.empty l i) (rdOf ByteArray.empty l i) 0 (l.drop (i + 1).toNat)) := fun b hb2 => by
          unfold fbSep
          rw [if_neg hz, hb2, spec_FoldBlock.j1]
          cases b with
          | true =>
            rw [if_pos rfl, if_pos rfl, w64 (n := many + 1) (by simp only [totS] at hb; omega) (by simp only [totS] at hb; omega), spec_FoldBlock.j2, if_pos (by omega), show (many + 1 == 0) = false by simp; omega, spec_FoldBlock.j3, if_neg (by decide), spec_FoldBlock.j4]
            have := fin (many.toNat + 1) out (k + 1) (by omega) (by omega) (by omega)
            rw [show ((many.toNat + 1 : Nat) : Int) = many + 1 by omega] at this
            exact this
          | false =>
            rw [if_neg (by decide), if_neg (show ¬ (false = true) by decide), spec_FoldBlock.j2, if_pos (by omega)]
            by_cases hz0 : many = 0
            · rw [if_pos (show many.toNat = 0 by omega), show (many == 0) = true by simp [hz0], spec_FoldBlock.j3, if_pos rfl, if_pos (by simp only [totS] at hb; omega), spec_FoldBlock.j4]
              have := fin 0 (out ++ (⟨#[32]⟩ : ByteArray)) (k + 1) (by omega) (by rw [size_app]; show out.size + 1 + 0 ≤ _; omega) (by omega)
              rw [nl_zero, app_nil] at this
              rw [hz0]
              exact this
            · rw [if_neg (show ¬ many.toNat = 0 by omega), show (many == 0) = false by simp [hz0], spec_FoldBlock.j3, if_neg (by decide), spec_FoldBlock.j4]
              have := fin many.toNat out (k + 1) (by omega) (by omega) (by omega)
              rw [show (many.toNat : Int) = many by omega] at this
              exact this
        cases hf : far (rdOf ByteArray.empty l i) with
        | true => rw [if_pos rfl]; exact key true (by rw [hf, Bool.or_true])
        | false =>
          rw [if_neg (by decide), if_pos ha0, if_pos ha1, hrl, spec_l05Far_ok, Option.bind_some]
          exact key (far last) (by rw [hf, Bool.or_false])
theorem spec_FoldBlock_ok (l : List ByteArray) (hl : l.length ≤ 4194304) (hb : totS l ≤ 35184372088832) (k : Nat) (hk : 10 * l.length + 10 ≤ k) : spec_FoldBlock.f k l = some (foldBlockM l) := by
  have := spec_FoldBlock_l0 l hl l.length k ⟨#[]⟩ ⟨#[]⟩ 0 (-1) 0 (by omega) (by omega) (by omega) (by omega) (.inl ⟨rfl, rfl⟩) (by rw [show (0 : Int).toNat = 0 from rfl, List.drop_zero, size_none]; omega)
  exact this

theorem spec_BlockText_l2 (l : List ByteArray) (chomp : Int) (hl : l.length ≤ 4194304) (d : Nat) : ∀ (k : Nat) (body : ByteArray) (i : Int), 0 ≤ i → (l.length : Int) - i = d → body.size + d ≤ 70368744177664 → d < k →
    spec_BlockText.l2 k l chomp body i = some (if chomp = 2 then body ++ nl d else body) := by
  induction d with
  | zero =>
    intro k body i hi hd hb hk
    obtain ⟨k, rfl⟩ : ∃ m, k = m + 1 := ⟨k - 1, by omega⟩
    rw [spec_BlockText.l2, if_neg (by omega), nl_zero, app_nil]
    split <;> rfl
  | succ d ih =>
    intro k body i hi hd hb hk
    obtain ⟨k, rfl⟩ : ∃ m, k = m + 1 := ⟨k - 1, by omega⟩
    rw [spec_BlockText.l2, if_pos (by omega)]
    by_cases c : chomp = 2
    · rw [if_pos c, if_pos c, if_pos (by omega), w64 (by omega) (by omega), ih k _ (i + 1) (by omega) (by omega) (by rw [size_app, show (⟨#[10]⟩ : ByteArray).size = 1 from rfl]; omega) (by omega), if_pos c, ← nl_one, app_assoc, nl_add, Nat.add_comm 1 d]
    · rw [if_neg c, if_neg c]
theorem spec_BlockText_j3 (l : List ByteArray) (chomp : Int) (n : Nat) (body : ByteArray) (hl : l.length ≤ 4194304) (hn : n ≤ l.length) (hb : body.size ≤ 35184372088832) (k : Nat) (hk : l.length + 10 ≤ k) :
    spec_BlockText.j3 k l chomp (n : Int) body = some (if n = 0 then (if chomp = 2 then body ++ nl l.length else body) else if chomp = 1 then body else if chomp = 2 then body ++ nl (1 + l.length - n) else body ++ nl 1) := by
  obtain ⟨k, rfl⟩ : ∃ m, k = m + 3 := ⟨k - 3, by omega⟩
  rw [spec_BlockText.j3]
  by_cases c0 : n = 0
  · rw [if_neg (by omega), if_pos c0, spec_BlockText.j4, if_neg (by decide), spec_BlockText.j5]
    exact spec_BlockText_l2 l chomp hl l.length k body n (by omega) (by omega) (by omega) (by omega)
  · rw [if_pos (by omega), if_neg c0, spec_BlockText.j4]
    by_cases c1 : chomp = 1
    · rw [if_pos c1, if_neg (by rw [c1]; decide), spec_BlockText.j5, spec_BlockText_l2 l chomp hl (l.length - n) k body n (by omega) (by omega) (by omega) (by omega), if_neg (by omega)]
    · rw [if_neg c1, if_pos (bne_iff_ne.mpr c1), if_pos (by omega), spec_BlockText.j5, spec_BlockText_l2 l chomp hl (l.length - n) k _ n (by omega) (by omega) (by rw [size_app, show (⟨#[10]⟩ : ByteArray).size = 1 from rfl]; omega) (by omega)]
      by_cases c2 : chomp = 2
      · rw [if_pos c2, if_pos c2, ← nl_one, app_assoc, nl_add, show 1 + (l.length - n) = 1 + l.length - n by omega]
      · rw [if_neg c2, if_neg c2, nl_one]
theorem spec_BlockText_l1 (l : List ByteArray) (chomp : Int) (n : Nat) (hl : l.length ≤ 4194304) (hn : n ≤ l.length) (t : List ByteArray) (ht : t.length ≤ 4194304) (d : Nat) : ∀ (k : Nat) (body : ByteArray) (i : Int), 0 ≤ i → (t.length : Int) - i = d → body.size + totS (t.drop i.toNat) + d ≤ 35184372088832 → d + l.length + 20 ≤ k →
    (0 < i ∨ body = ⟨#[]⟩) →
    spec_BlockText.l1 k l chomp (n : Int) body t (t.length : Int) i = some (if n = 0 then (if chomp = 2 then (if 0 < i then body ++ keepTail (t.drop i.toNat) else keepM (t.drop i.toNat)) ++ nl l.length else (if 0 < i then body ++ keepTail (t.drop i.toNat) else keepM (t.drop i.toNat))) else if chomp = 1 then (if 0 < i then body ++ keepTail (t.drop i.toNat) else keepM (t.drop i.toNat)) else if chomp = 2 then (if 0 < i then body ++ keepTail (t.drop i.toNat) else keepM (t.drop i.toNat)) ++ nl (1 + l.length - n) else (if 0 < i then body ++ keepTail (t.drop i.toNat) else keepM (t.drop i.toNat)) ++ nl 1) := by
  induction d with
  | zero =>
    intro k body i hi hd hb hk hz
    obtain ⟨k, rfl⟩ : ∃ m, k = m + 1 := ⟨k - 1, by omega⟩
    rw [spec_BlockText.l1, if_neg (by omega), spec_BlockText_j3 l chomp n body hl hn (by omega) k (by omega), drop_end _ _ (by omega)]
    have e : (if 0 < i then body ++ keepTail [] else keepM []) = body := by
      split
      · exact app_nil body
      · rename_i h; rw [hz.resolve_left h]; rfl
    rw [e]
  | succ d ih =>
    intro k body i hi hd hb hk hz
    obtain ⟨k, rfl⟩ : ∃ m, k = m + 1 := ⟨k - 1, by omega⟩
    have hdr := drop_at ByteArray.empty t i hi (by omega)
    have e : rdOf ByteArray.empty t i = t.getD i.toNat ByteArray.empty := rfl
    rw [spec_BlockText.l1, if_pos (by omega), if_pos hi, if_pos (by omega), e]
    rw [hdr] at hb ⊢
    rw [totS] at hb
    generalize t.getD i.toNat ByteArray.empty = x at hb ⊢
    have hz1 : (⟨#[10]⟩ : ByteArray).size = 1 := rfl
    rw [w64 (by omega) (by omega)]
    by_cases c : i > 0
    · rw [if_pos c, if_pos (by omega), if_pos (by rw [size_app]; omega), ih k _ (i + 1) (by omega) (by omega) (by rw [size_app, size_app]; omega) (by omega) (.inl (by omega)), if_pos (show 0 < i + 1 by omega), if_pos (show 0 < i from c)]
      rw [show body ++ (⟨#[10]⟩ : ByteArray) ++ x ++ keepTail (t.drop (i + 1).toNat) = body ++ keepTail (x :: t.drop (i + 1).toNat) by rw [keepTail, ← nl_one, app_assoc, app_assoc]]
    · rw [if_neg c, if_pos (by omega), ih k _ (i + 1) (by omega) (by omega) (by rw [size_app]; omega) (by omega) (.inl (by omega)), if_pos (show 0 < i + 1 by omega), if_neg (show ¬ 0 < i from c)]
      rw [hz.resolve_left c, nil_app, keepM]
theorem spec_BlockText_j1 (l : List ByteArray) (folded : Bool) (chomp : Int) (hl : l.length ≤ 4194304) (hb : totS l ≤ 4194304) (n : Nat) (hn : n = trimN l l.length) (k : Nat) (hk : 11 * l.length + 40 ≤ k) :
    spec_BlockText.j1 k l folded chomp (n : Int) = some (blockM l folded chomp) := by
  obtain ⟨k, rfl⟩ : ∃ m, k = m + 1 := ⟨k - 1, by omega⟩
  have hle := trimN_le l l.length
  unfold blockM
  rw [← hn] at hle ⊢
  have ht := totS_take l n
  have h1 : (l.take n).length = n := by rw [List.length_take]; omega
  have s2 := foldBlockM_size (l.take n)
  rw [spec_BlockText.j1, if_pos (show (0 : Int) ≤ (n : Int) by omega), if_pos (show (n : Int) ≤ (l.length : Int) by omega), show ((n : Nat) : Int).toNat = n by omega]
  cases folded with
  | true =>
    rw [if_pos rfl, spec_FoldBlock_ok _ (by omega) (by omega) k (by omega), Option.bind_some, spec_BlockText_j3 l chomp n _ hl hle (by omega) k (by omega)]
    by_cases c0 : n = 0
    · rw [if_pos c0, if_pos c0, c0, List.take_zero]
      show some (if chomp = 2 then (⟨#[]⟩ : ByteArray) ++ nl l.length else (⟨#[]⟩ : ByteArray)) = _
      rw [nil_app]
    · rw [if_neg c0, if_neg c0, if_pos rfl]
  | false =>
    have := spec_BlockText_l1 l chomp n hl hle (l.take n) (by omega) n k (⟨#[]⟩ : ByteArray) 0 (by omega) (by omega) (by rw [show (0 : Int).toNat = 0 from rfl, List.drop_zero, size_none]; omega) (by omega) (.inr rfl)
    rw [show (0 : Int).toNat = 0 from rfl, List.drop_zero, if_neg (show ¬ (0 : Int) < 0 by omega)] at this
    rw [if_neg (show ¬ (false = true) by decide), if_pos (show (0 : Int) ≤ (n : Int) by omega), if_pos (show (n : Int) ≤ (l.length : Int) by omega), this]
    by_cases c0 : n = 0
    · rw [if_pos c0, if_pos c0, c0, List.take_zero]
      show some (if chomp = 2 then (⟨#[]⟩ : ByteArray) ++ nl l.length else (⟨#[]⟩ : ByteArray)) = _
      rw [nil_app]
    · rw [if_neg c0, if_neg c0]
      simp only [Bool.false_eq_true, if_false]
theorem spec_BlockText_l0 (l : List ByteArray) (folded : Bool) (chomp : Int) (hl : l.length ≤ 4194304) (hb : totS l ≤ 4194304) (n : Nat) : ∀ (k : Nat), n ≤ l.length → trimN l n = trimN l l.length → 11 * l.length + 50 + n ≤ k →
    spec_BlockText.l0 k l folded chomp (n : Int) = some (blockM l folded chomp) := by
  induction n with
  | zero =>
    intro k hn ht hk
    obtain ⟨k, rfl⟩ : ∃ m, k = m + 1 := ⟨k - 1, by omega⟩
    rw [spec_BlockText.l0, if_neg (by omega)]
    exact spec_BlockText_j1 l folded chomp hl hb 0 ht k (by omega)
  | succ n ih =>
    intro k hn ht hk
    obtain ⟨k, rfl⟩ : ∃ m, k = m + 1 := ⟨k - 1, by omega⟩
    rw [spec_BlockText.l0, if_pos (by omega), w64 (by omega) (by omega), show ((n + 1 : Nat) : Int) - 1 = (n : Int) by omega, if_pos (by omega), if_pos (by omega)]
    have e : rdOf ByteArray.empty l (n : Int) = l.getD n ByteArray.empty := by unfold rdOf; rw [show ((n : Nat) : Int).toNat = n by omega]
    rw [e]
    rw [trimN_succ] at ht
    by_cases c : (l.getD n ByteArray.empty).size = 0
    · rw [if_pos c] at ht
      rw [if_pos (tl_nil.mpr c)]
      exact ih k (by omega) ht (by omega)
    · rw [if_neg c] at ht
      rw [if_neg (fun h => c (tl_nil.mp h))]
      exact spec_BlockText_j1 l folded chomp hl hb (n + 1) ht k (by omega)
theorem spec_BlockText_ok (l : List ByteArray) (folded : Bool) (chomp : Int) (hl : l.length ≤ 4194304) (hb : totS l ≤ 4194304) (k : Nat) (hk : 12 * l.length + 50 ≤ k) : spec_BlockText.f k l folded chomp = some (blockM l folded chomp) := by
  unfold spec_BlockText.f
  exact spec_BlockText_l0 l folded chomp hl hb l.length k (Nat.le_refl _) rfl (by omega)

theorem laws_toStringS_l0 (l : List ByteArray) (hl : l.length ≤ 1048576) (z : ByteArray) (d : Nat) : ∀ (k : Nat) (i : Int), 0 ≤ i → (l.length : Int) - i = d → d < k →
    laws_toStringS.l0 k l (l.take i.toNat ++ List.replicate (l.length - i.toNat) z) i = some l := by
  induction d with
  | zero =>
    intro k i h0 hd hk
    obtain ⟨k, rfl⟩ : ∃ m, k = m + 1 := ⟨k - 1, by omega⟩
    rw [laws_toStringS.l0, if_neg (by omega), copy_end z l i (by omega)]
  | succ d ih =>
    intro k i h0 hd hk
    obtain ⟨k, rfl⟩ : ∃ m, k = m + 1 := ⟨k - 1, by omega⟩
    have hi : i < (l.length : Int) := by omega
    rw [laws_toStringS.l0, if_pos hi, if_pos h0, copy_len z l i h0 (by omega), if_pos hi, copy_set z (rdOf ByteArray.empty l i) l i h0 hi (getD_some ByteArray.empty l i h0 hi), w64 (by omega) (by omega)]
    exact ih k (i + 1) (by omega) (by omega) (by omega)
theorem laws_toStringS_ok (l : List ByteArray) (hl : l.length ≤ 1048576) (k : Nat) (hk : l.length < k) : laws_toStringS.f k l = some l := by
  unfold laws_toStringS.f
  rw [if_pos (by omega), if_pos (by omega)]
  have := laws_toStringS_l0 l hl (⟨#[]⟩ : ByteArray) l.length k 0 (by omega) (by omega) hk
  exact this

theorem laws_eqStringS_l0 (l : List ByteArray) (hl : l.length ≤ 1048576) (d : Nat) : ∀ (k : Nat) (i : Int), 0 ≤ i → (l.length : Int) - i = d → d < k → laws_eqStringS.l0 k l l i = some true := by
  induction d with
  | zero =>
    intro k i h0 hd hk
    obtain ⟨k, rfl⟩ : ∃ m, k = m + 1 := ⟨k - 1, by omega⟩
    rw [laws_eqStringS.l0, if_neg (by omega)]
  | succ d ih =>
    intro k i h0 hd hk
    obtain ⟨k, rfl⟩ : ∃ m, k = m + 1 := ⟨k - 1, by omega⟩
    rw [laws_eqStringS.l0, if_pos (by omega), if_pos h0, if_pos (by omega), if_pos rfl, w64 (by omega) (by omega)]
    exact ih k (i + 1) (by omega) (by omega) (by omega)
theorem laws_eqStringS_ok (l : List ByteArray) (hl : l.length ≤ 1048576) (k : Nat) (hk : l.length < k) : laws_eqStringS.f k l l = some true := by
  unfold laws_eqStringS.f
  rw [if_pos rfl]
  exact laws_eqStringS_l0 l hl l.length k 0 (by omega) (by omega) hk

theorem FnExactBlockText : ∀ (l0 : List (ByteArray)) (a1 : Bool) (a2 : Int), l0.length ≤ 9223372036854775807 → (∀ a ∈ l0, a.size ≤ 9223372036854775807) → (Lit.int .i64 a2).wf = true → ∃ k, laws_FnExactBlockText.f k l0 a1 a2 = some true := by
  intro l folded chomp hl hb _
  obtain ⟨k, hk⟩ : ∃ k : Nat, 20 * l.length + 100 ≤ k := ⟨_, Nat.le_refl _⟩
  obtain ⟨r, hr, hs⟩ := laws_szStringS_ok l hl hb k (by omega)
  refine ⟨k, ?_⟩
  simp only [laws_FnExactBlockText.f, hr, Option.bind_some]
  rcases hs with hs | hs
  · rw [if_pos hs]
  · by_cases hn : r < 0
    · rw [if_pos hn]
    · rw [if_neg hn]
      simp only [laws_toStringS_ok l (by omega) k (by omega), spec_BlockText_ok l folded chomp (by omega) (by omega) k (by omega), impl_BlockText_ok l folded chomp (by omega) (by omega) k (by omega), laws_eqStringS_ok l (by omega) k (by omega), Option.bind_some, if_true]

end Go.Proofs.Ytglmjmkbahfgaaa.Pure
