/- The statement FnExactFoldBlock, for every input. -/
import Derived.Test.YtjbhflicehnocaaPFnExactFoldBlockx0
import Derived.Test.YtjbhflicehnocaaPFnExactFoldBlockx1
import Derived.Test.YtjbhflicehnocaaPFnExactFoldBlockx2
import Derived.Test.YtjbhflicehnocaaLst
import Derived.Test.YtjbhflicehnocaaMine
import Derived.Test.YtjbhflicehnocaaTxt
namespace Go.Proofs.Ytjbhflicehnocaa.Pure
open Go.RowKit Go.Proofs.Ytjbhflicehnocaa.PFnExactFoldBlock Go.Proofs.YtjbhflicehnocaaW.PrintWords Go.Proofs.YtjbhflicehnocaaW.PrintLast Go.Proofs.YtjbhflicehnocaaW.PrintMore Go.Proofs.Ytjbhflicehnocaa.Mine

theorem laws_szStringS_l0 (l : List ByteArray) (hl : l.length ≤ 9223372036854775807) (hb : ∀ a ∈ l, a.size ≤ 9223372036854775807) (d : Nat) : ∀ (k : Nat) (x i : Int), 0 ≤ i → (l.length : Int) - i = d → 0 ≤ x → x ≤ 1048576 → d < k →
    ∃ r, laws_szStringS.l0 k l x i = some r ∧ (r < 0 ∨ (totS (l.drop i.toNat) : Int) ≤ x) := by
  induction d with
  | zero =>
    intro k x i h0 hd hx hx1 hk
    obtain ⟨k, rfl⟩ : ∃ m, k = m + 1 := ⟨k - 1, by omega⟩
    refine ⟨x, by rw [laws_szStringS.l0, if_neg (by omega)], .inr ?_⟩
    rw [drop_end _ _ (by omega)]
    exact hx
  | succ d ih =>
    intro k x i h0 hd hx hx1 hk
    obtain ⟨k, rfl⟩ : ∃ m, k = m + 1 := ⟨k - 1, by omega⟩
    have hi : i < (l.length : Int) := by omega
    have hm : (rdOf ByteArray.empty l i).size ≤ 9223372036854775807 := by
      have := getD_some ByteArray.empty l i h0 hi
      exact hb _ (List.mem_of_getElem? this)
    have e : wrap64 (x - ((rdOf ByteArray.empty l i).size : Int)) = x - (rdOf ByteArray.empty l i).size := w64 (by omega) (by omega)
    rw [laws_szStringS.l0, if_pos hi, if_pos h0, e, w64 (n := i + 1) (by omega) (by omega)]
    by_cases hn : x - ((rdOf ByteArray.empty l i).size : Int) < 0
    · rw [if_pos hn]
      exact ⟨-1, rfl, .inl (by omega)⟩
    · rw [if_neg hn]
      obtain ⟨r, hr, hs⟩ := ih k (x - (rdOf ByteArray.empty l i).size) (i + 1) (by omega) (by omega) (by omega) (by omega) (by omega)
      refine ⟨r, hr, hs.imp id fun h => ?_⟩
      rw [drop_at ByteArray.empty l i h0 hi]
      show (((rdOf ByteArray.empty l i).size + totS (l.drop (i + 1).toNat) : Nat) : Int) ≤ x
      omega
theorem laws_szStringS_ok (l : List ByteArray) (hl : l.length ≤ 9223372036854775807) (hb : ∀ a ∈ l, a.size ≤ 9223372036854775807) (k : Nat) (hk : l.length < k) :
    ∃ r, laws_szStringS.f k l 1048576 = some r ∧ (r < 0 ∨ l.length + totS l ≤ 1048576) := by
  unfold laws_szStringS.f
  rw [w64 (by omega) (by omega)]
  by_cases hn : (1048576 : Int) - (l.length : Int) < 0
  · rw [if_pos hn]
    exact ⟨-1, rfl, .inl (by omega)⟩
  · rw [if_neg hn]
    obtain ⟨r, hr, hs⟩ := laws_szStringS_l0 l hl hb l.length k (1048576 - (l.length : Int)) 0 (by omega) (by omega) (by omega) (by omega) hk
    refine ⟨r, hr, hs.imp id fun h => ?_⟩
    rw [show (0 : Int).toNat = 0 from rfl, List.drop_zero] at h
    omega

theorem spec_l03White_in (s : ByteArray) (p : Int) (h0 : 0 ≤ p) (h1 : p < s.size) : spec_l03White.f s p = some (whB (bt s p)) := by
  simp (disch := omega) only [spec_l03White.f, if_pos]
  by_cases h : bt s p = 32
  · rw [if_pos h, whB_iff.mpr (.inl h)]
  · rw [if_neg h]
    by_cases h9 : bt s p = 9
    · rw [h9]; rfl
    · rw [whB_not.mpr (by omega)]; simp [h9]
theorem spec_l03White_end (s : ByteArray) (p : Int) (h1 : (s.size : Int) ≤ p) : spec_l03White.f s p = some false := by
  simp (disch := omega) only [spec_l03White.f, if_neg]
theorem spec_l03White_ok (s : ByteArray) (p : Int) (h0 : 0 ≤ p) : spec_l03White.f s p = some (whB (byteM s p)) := by
  by_cases h : p < s.size
  · rw [spec_l03White_in s p h0 h, byteM_in h0 h]
  · rw [spec_l03White_end s p (by omega), byteM_end (by omega)]; rfl

theorem spec_l05Far_ok (s : ByteArray) : spec_l05Far.f s = some (far s) := by
  simp only [spec_l05Far.f, spec_l03White_ok s 0 (by omega), Option.bind_some]; rfl

theorem spec_FoldBlock_l1 (l : List ByteArray) (x6 : Int) (x : ByteArray) (i len : Int) (n : Nat) : ∀ (k : Nat) (out : ByteArray), (out.size : Int) + n + x.size ≤ 70368744177664 →
    spec_FoldBlock.l1 (k + n + 1) l out (n : Int) x6 x l len i = spec_FoldBlock.l0 k l (out ++ nl n ++ x) 0 x6 l len (wrap64 (i + 1)) := by
  induction n with
  | zero =>
    intro k out hb
    rw [show k + 0 + 1 = k + 1 by omega, spec_FoldBlock.l1, if_neg (by omega), if_pos (by omega), nl_zero, app_nil]
    rfl
  | succ n ih =>
    intro k out hb
    have hz : (⟨#[10]⟩ : ByteArray).size = 1 := rfl
    rw [show k + (n + 1) + 1 = (k + n + 1) + 1 by omega, spec_FoldBlock.l1, if_pos (by omega), if_pos (by omega), show (((n + 1 : Nat) : Int) - 1) = (n : Int) by omega, w64 (by omega) (by omega), ih k _ (by rw [size_app, hz]; omega)]
    rw [show (⟨#[10]⟩ : ByteArray) = nl 1 from rfl, app_assoc out (nl 1) (nl n), nl_add, show 1 + n = n + 1 by omega]
theorem spec_FoldBlock_l0 (l : List ByteArray) (hl : l.length ≤ 4194304) (d : Nat) : ∀ (k : Nat) (out last : ByteArray) (many lastAt i : Int), 0 ≤ i → (l.length : Int) - i = d → 0 ≤ many → 10 * (d : Int) + many + 10 ≤ k →
    ((lastAt = -1 ∧ last.size = 0) ∨ (0 ≤ lastAt ∧ lastAt < (l.length : Int) ∧ rdOf ByteArray.empty l lastAt = last ∧ ¬ last.size = 0)) →
    (out.size : Int) + many + totS (l.drop i.toNat) + 2 * d ≤ 70368744177664 →
    spec_FoldBlock.l0 k l out many lastAt l (l.length : Int) i = some (fbN out last many.toNat (l.drop i.toNat)) := by
  induction d with
  | zero =>
    intro k out last many lastAt i h0 hd hm hk hla hb
    obtain ⟨k, rfl⟩ : ∃ m, k = m + 1 := ⟨k - 1, by omega⟩
    rw [spec_FoldBlock.l0, if_neg (by omega), drop_end _ _ (by omega)]
    rfl
  | succ d ih =>
    intro k out last many lastAt i h0 hd hm hk hla hb
    have hi : i < (l.length : Int) := by omega
    have hdr : l.drop i.toNat = rdOf ByteArray.empty l i :: l.drop (i + 1).toNat := drop_at ByteArray.empty l i h0 hi
    have hrd : rdOf ByteArray.empty l i = rdOf ByteArray.empty l i := rfl
    rw [hdr] at hb ⊢
    have ei : wrap64 (i + 1) = i + 1 := w64 (by omega) (by omega)
    by_cases hx : (rdOf ByteArray.empty l i).size = 0
    · obtain ⟨k, rfl⟩ : ∃ m, k = m + 1 := ⟨k - 1, by omega⟩
      simp only [totS] at hb
      rw [spec_FoldBlock.l0, if_pos hi, if_pos h0, if_pos hi, if_pos (tl_nil.mpr hx), w64 (n := many + 1) (by omega) (by omega), ei]
      simp only [fbN]
      rw [if_pos hx]
      have := ih k out last (many + 1) lastAt (i + 1) (by omega) (by omega) (by omega) (by omega) hla (by omega)
      rw [show (many + 1).toNat = many.toNat + 1 by omega] at this
      exact this
    · have fin : ∀ (m : Nat) (o : ByteArray) (k' : Nat), m ≤ many.toNat + 1 → o.size + m ≤ out.size + many.toNat + 1 → 10 * (d : Int) + m + 11 ≤ k' →
          spec_FoldBlock.l1 k' l o (m : Int) i (rdOf ByteArray.empty l i) l (l.length : Int) i = some (fbN (o ++ nl m ++ rdOf ByteArray.empty l i) (rdOf ByteArray.empty l i) 0 (l.drop (i + 1).toNat)) := fun m o k' hm1 hs hk' => by
        simp only [totS] at hb
        obtain ⟨k'', rfl⟩ : ∃ q, k' = q + m + 1 := ⟨k' - m - 1, by omega⟩
        rw [spec_FoldBlock_l1 l i _ i _ m k'' o (by omega), ei]
        exact ih k'' _ (rdOf ByteArray.empty l i) 0 i (i + 1) (by omega) (by omega) (by omega) (by omega) (.inr ⟨h0, hi, rfl, hx⟩) (by rw [size_app, size_app, nl_size]; omega)
      obtain ⟨k, rfl⟩ : ∃ m, k = m + 6 := ⟨k - 6, by omega⟩
      rw [spec_FoldBlock.l0, if_pos hi, if_pos h0, if_pos hi, if_neg (fun c => hx (tl_nil.mp c))]
      simp only [fbN]
      rw [if_neg hx]
      rcases hla with ⟨ha, hz⟩ | ⟨ha0, ha1, hrl, hz⟩
      · rw [if_neg (by omega), spec_FoldBlock.j1, if_neg (by decide), spec_FoldBlock.j2, if_neg (by omega), spec_FoldBlock.j3, if_neg (by decide), spec_FoldBlock.j4]
        have hsep : fbSep last many.toNat (rdOf ByteArray.empty l i) = nl many.toNat := by unfold fbSep; rw [if_pos hz]
        rw [hsep]
        have := fin many.toNat out (k + 1) (by omega) (by omega) (by omega)
        rw [show (many.toNat : Int) = many by omega] at this
        exact this
      · rw [if_pos (by omega), spec_l05Far_ok, Option.bind_some]
        have key : ∀ b : Bool, (far last || far (rdOf ByteArray.empty l i)) = b → spec_FoldBlock.j1 (k + 5) l out many lastAt i (rdOf ByteArray.empty l i) l (l.length : Int) i b = some (fbN (out ++ fbSep last many.toNat (rdOf ByteArray.empty l i) ++ rdOf ByteArray.empty l i) (rdOf ByteArray.empty l i) 0 (l.drop (i + 1).toNat)) := fun b hb2 => by
          unfold fbSep
          rw [if_neg hz, hb2, spec_FoldBlock.j1]
          cases b with
          | true =>
            rw [if_pos rfl, if_pos rfl, w64 (n := many + 1) (by simp only [totS] at hb; omega) (by simp only [totS] at hb; omega), spec_FoldBlock.j2, if_pos (by omega), show (many + 1 == 0) = false by simp; omega, spec_FoldBlock.j3, if_neg (by decide), spec_FoldBlock.j4]
            have := fin (many.toNat + 1) out (k + 1) (by omega) (by omega) (by omega)
            rw [show ((many.toNat + 1 : Nat) : Int) = many + 1 by omega] at this
            exact this
          | false =>
            rw [if_neg (by decide), if_neg (show ¬ (false = true) by decide), spec_FoldBlock.j2, if_pos (by omega)]
            by_cases hz0 : many = 0
            · rw [if_pos (show many.toNat = 0 by omega), show (many == 0) = true by simp [hz0], spec_FoldBlock.j3, if_pos rfl, if_pos (by simp only [totS] at hb; omega), spec_FoldBlock.j4]
              have := fin 0 (out ++ (⟨#[32]⟩ : ByteArray)) (k + 1) (by omega) (by rw [size_app]; show out.size + 1 + 0 ≤ _; omega) (by omega)
              rw [nl_zero, app_nil] at this
              rw [hz0]
              exact this
            · rw [if_neg (show ¬ many.toNat = 0 by omega), show (many == 0) = false by simp [hz0], spec_FoldBlock.j3, if_neg (by decide), spec_FoldBlock.j4]
              have := fin many.toNat out (k + 1) (by omega) (by omega) (by omega)
              rw [show (many.toNat : Int) = many by omega] at this
              exact this
        cases hf : far (rdOf ByteArray.empty l i) with
        | true => rw [if_pos rfl]; exact key true (by rw [hf, Bool.or_true])
        | false =>
          rw [if_neg (by decide), if_pos ha0, if_pos ha1, hrl, spec_l05Far_ok, Option.bind_some]
          exact key (far last) (by rw [hf, Bool.or_false])
theorem spec_FoldBlock_ok (l : List ByteArray) (hl : l.length ≤ 4194304) (hb : totS l ≤ 35184372088832) (k : Nat) (hk : 10 * l.length + 10 ≤ k) : spec_FoldBlock.f k l = some (foldBlockM l) := by
  have := spec_FoldBlock_l0 l hl l.length k ⟨#[]⟩ ⟨#[]⟩ 0 (-1) 0 (by omega) (by omega) (by omega) (by omega) (.inl ⟨rfl, rfl⟩) (by rw [show (0 : Int).toNat = 0 from rfl, List.drop_zero, size_none]; omega)
  exact this

theorem laws_toStringS_l0 (l : List ByteArray) (hl : l.length ≤ 1048576) (z : ByteArray) (d : Nat) : ∀ (k : Nat) (i : Int), 0 ≤ i → (l.length : Int) - i = d → d < k →
    laws_toStringS.l0 k l (l.take i.toNat ++ List.replicate (l.length - i.toNat) z) i = some l := by
  induction d with
  | zero =>
    intro k i h0 hd hk
    obtain ⟨k, rfl⟩ : ∃ m, k = m + 1 := ⟨k - 1, by omega⟩
    rw [laws_toStringS.l0, if_neg (by omega), copy_end z l i (by omega)]
  | succ d ih =>
    intro k i h0 hd hk
    obtain ⟨k, rfl⟩ : ∃ m, k = m + 1 := ⟨k - 1, by omega⟩
    have hi : i < (l.length : Int) := by omega
    rw [laws_toStringS.l0, if_pos hi, if_pos h0, copy_len z l i h0 (by omega), if_pos hi, copy_set z (rdOf ByteArray.empty l i) l i h0 hi (getD_some ByteArray.empty l i h0 hi), w64 (by omega) (by omega)]
    exact ih k (i + 1) (by omega) (by omega) (by omega)
theorem laws_toStringS_ok (l : List ByteArray) (hl : l.length ≤ 1048576) (k : Nat) (hk : l.length < k) : laws_toStringS.f k l = some l := by
  unfold laws_toStringS.f
  rw [if_pos (by omega), if_pos (by omega)]
  have := laws_toStringS_l0 l hl (⟨#[]⟩ : ByteArray) l.length k 0 (by omega) (by omega) hk
  exact this

theorem strings_Repeat_nl (n : Int) (h0 : 0 ≤ n) (h1 : n ≤ 70368744177664) : strings_Repeat.f (⟨#[10]⟩ : ByteArray) n = some (nl n.toNat) := by
  unfold strings_Repeat.f
  have hz : (⟨#[10]⟩ : ByteArray).size = 1 := rfl
  rw [if_pos ⟨h0, by omega, by rw [hz]; omega⟩, repeatL_nl]

theorem impl_spot_ok (s : ByteArray) (p : Int) : impl_spot.f s p = some (spotM s p) := by
  unfold impl_spot.f; rw [mn_mx_spotM]

theorem impl_byteAt_ok (s : ByteArray) (p : Int) : impl_byteAt.f s p = some (byteM s p) := by
  have h0 := spotM_lo s p
  have h1 := spotM_hi s p
  have h2 := bt_lo s (spotM s p)
  have h3 := bt_hi s (spotM s p)
  simp only [impl_byteAt.f, impl_spot_ok, Option.bind_some]
  unfold byteM
  by_cases h : spotM s p = (s.size : Int)
  · rw [if_pos h, if_pos h]
  · rw [if_neg h, if_neg h, if_pos h0, if_pos (by omega), w64 (by omega) (by omega)]

theorem impl_isWhite_ok (b : Int) : impl_isWhite.f b = some (whB b) := by
  unfold impl_isWhite.f
  by_cases h : b = 32
  · rw [if_pos h, whB_iff.mpr (.inl h)]
  · rw [if_neg h]
    by_cases h9 : b = 9
    · rw [h9]; rfl
    · rw [whB_not.mpr (by omega)]; simp [h9]

theorem impl_isFar_ok (s : ByteArray) : impl_isFar.f s = some (far s) := by
  simp only [impl_isFar.f, impl_byteAt_ok, impl_isWhite_ok, Option.bind_some]; rfl

theorem impl_FoldBlock_l0 (l : List ByteArray) (hl : l.length ≤ 4194304) (d : Nat) : ∀ (k : Nat) (out last : ByteArray) (many i : Int), 0 ≤ i → (l.length : Int) - i = d → 0 ≤ many → 2 * d < k →
    (out.size : Int) + many + totS (l.drop i.toNat) + 2 * d ≤ 70368744177664 →
    impl_FoldBlock.l0 k out last many l (l.length : Int) i = some (fbN out last many.toNat (l.drop i.toNat)) := by
  induction d with
  | zero =>
    intro k out last many i h0 hd hm hk hb
    obtain ⟨k, rfl⟩ : ∃ m, k = m + 1 := ⟨k - 1, by omega⟩
    rw [impl_FoldBlock.l0, if_neg (by omega), drop_end _ _ (by omega)]
    rfl
  | succ d ih =>
    intro k out last many i h0 hd hm hk hb
    obtain ⟨k, rfl⟩ : ∃ m, k = m + 2 := ⟨k - 2, by omega⟩
    have hi : i < (l.length : Int) := by omega
    have hdr : l.drop i.toNat = rdOf ByteArray.empty l i :: l.drop (i + 1).toNat := drop_at ByteArray.empty l i h0 hi
    rw [hdr] at hb ⊢
    rw [impl_FoldBlock.l0, if_pos hi, if_pos h0, if_pos hi]
    generalize rdOf ByteArray.empty l i = x at hb ⊢
    simp only [totS] at hb
    simp only [fbN, impl_isFar_ok, Option.bind_some]
    have ei : wrap64 (i + 1) = i + 1 := w64 (by omega) (by omega)
    by_cases hx : x.size = 0
    · rw [if_pos (tl_nil.mpr hx), if_pos hx, w64 (n := many + 1) (by omega) (by omega), ei]
      have := ih (k + 1) out last (many + 1) (i + 1) (by omega) (by omega) (by omega) (by omega) (by omega)
      rw [show (many + 1).toNat = many.toNat + 1 by omega] at this
      exact this
    · rw [if_neg (fun c => hx (tl_nil.mp c)), if_neg hx]
      have rest : ∀ (s : ByteArray) (k' : Nat), 2 * d < k' → s.size ≤ many.toNat + 1 → (if out.size + s.size ≤ 9223372036854775807 then (if (out ++ s).size + x.size ≤ 9223372036854775807 then (impl_FoldBlock.l0 k' ((out ++ s) ++ x) x 0 l (l.length : Int) (i + 1)) else (none)) else (none)) = some (fbN (out ++ s ++ x) x 0 (l.drop (i + 1).toNat)) := fun s k' hk' hs => by
        rw [if_pos (by omega), if_pos (by rw [size_app]; omega)]
        exact ih k' _ x 0 (i + 1) (by omega) (by omega) (by omega) hk' (by rw [size_app, size_app]; omega)
      by_cases hlast : last.size = 0
      · rw [if_pos (tl_nil.mpr hlast), strings_Repeat_nl many hm (by omega), Option.bind_some, ei]
        unfold fbSep
        rw [if_pos hlast]
        exact rest (nl many.toNat) (k + 1) (by omega) (by rw [nl_size]; omega)
      · rw [if_neg (fun c => hlast (tl_nil.mp c))]
        have key : ∀ b : Bool, (far last || far x) = b → impl_FoldBlock.j1 (k + 1) out many x l (l.length : Int) i b = some (fbN (out ++ fbSep last many.toNat x ++ x) x 0 (l.drop (i + 1).toNat)) := fun b hb2 => by
          unfold fbSep
          rw [if_neg hlast, hb2, impl_FoldBlock.j1, ei]
          cases b with
          | true =>
            rw [if_pos rfl, if_pos rfl, w64 (n := many + 1) (by omega) (by omega), strings_Repeat_nl (many + 1) (by omega) (by omega), Option.bind_some, show (many + 1).toNat = many.toNat + 1 by omega]
            exact rest (nl (many.toNat + 1)) k (by omega) (by rw [nl_size]; omega)
          | false =>
            rw [if_neg (by decide), if_neg (show ¬ (false = true) by decide)]
            by_cases hz : many = 0
            · rw [if_pos hz, if_pos (show many.toNat = 0 by omega)]
              exact rest sp k (by omega) (by rw [sp_size]; omega)
            · rw [if_neg hz, if_neg (show ¬ many.toNat = 0 by omega), strings_Repeat_nl many hm (by omega), Option.bind_some]
              exact rest (nl many.toNat) k (by omega) (by rw [nl_size]; omega)
        cases hf : far last with
        | true => rw [if_pos rfl]; exact key true (by rw [hf]; rfl)
        | false => rw [if_neg (by decide)]; exact key (far x) (by rw [hf]; rfl)
theorem impl_FoldBlock_ok (l : List ByteArray) (hl : l.length ≤ 4194304) (hb : totS l ≤ 35184372088832) (k : Nat) (hk : 2 * l.length < k) : impl_FoldBlock.f k l = some (foldBlockM l) := by
  have := impl_FoldBlock_l0 l hl l.length k ⟨#[]⟩ ⟨#[]⟩ 0 0 (by omega) (by omega) (by omega) hk (by rw [show (0 : Int).toNat = 0 from rfl, List.drop_zero, size_none]; omega)
  exact this

theorem laws_eqStringS_l0 (l : List ByteArray) (hl : l.length ≤ 1048576) (d : Nat) : ∀ (k : Nat) (i : Int), 0 ≤ i → (l.length : Int) - i = d → d < k → laws_eqStringS.l0 k l l i = some true := by
  induction d with
  | zero =>
    intro k i h0 hd hk
    obtain ⟨k, rfl⟩ : ∃ m, k = m + 1 := ⟨k - 1, by omega⟩
    rw [laws_eqStringS.l0, if_neg (by omega)]
  | succ d ih =>
    intro k i h0 hd hk
    obtain ⟨k, rfl⟩ : ∃ m, k = m + 1 := ⟨k - 1, by omega⟩
    rw [laws_eqStringS.l0, if_pos (by omega), if_pos h0, if_pos (by omega), if_pos rfl, w64 (by omega) (by omega)]
    exact ih k (i + 1) (by omega) (by omega) (by omega)
theorem laws_eqStringS_ok (l : List ByteArray) (hl : l.length ≤ 1048576) (k : Nat) (hk : l.length < k) : laws_eqStringS.f k l l = some true := by
  unfold laws_eqStringS.f
  rw [if_pos rfl]
  exact laws_eqStringS_l0 l hl l.length k 0 (by omega) (by omega) hk

theorem FnExactFoldBlock : ∀ (l0 : List (ByteArray)), l0.length ≤ 9223372036854775807 → (∀ a ∈ l0, a.size ≤ 9223372036854775807) → ∃ k, laws_FnExactFoldBlock.f k l0 = some true := by
  intro l hl hb
  obtain ⟨k, hk⟩ : ∃ k : Nat, 10 * l.length + 100 ≤ k := ⟨_, Nat.le_refl _⟩
  obtain ⟨r, hr, hs⟩ := laws_szStringS_ok l hl hb k (by omega)
  refine ⟨k, ?_⟩
  simp only [laws_FnExactFoldBlock.f, hr, Option.bind_some]
  rcases hs with hs | hs
  · rw [if_pos hs]
  · by_cases hn : r < 0
    · rw [if_pos hn]
    · rw [if_neg hn]
      simp only [laws_toStringS_ok l (by omega) k (by omega), spec_FoldBlock_ok l (by omega) (by omega) k (by omega), impl_FoldBlock_ok l (by omega) (by omega) k (by omega), laws_eqStringS_ok l (by omega) k (by omega), Option.bind_some, if_true]

end Go.Proofs.Ytjbhflicehnocaa.Pure
