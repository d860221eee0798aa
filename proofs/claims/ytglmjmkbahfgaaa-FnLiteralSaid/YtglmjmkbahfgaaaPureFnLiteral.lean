/- The lines of a literal scalar that keeps all are its text, and of the other two ways a beginning of it: for all lines that MakeLines can make. -/
import Derived.Test.YtglmjmkbahfgaaaPFnLiteralx0
import Derived.Test.YtglmjmkbahfgaaaPFnLiteralx1
import Derived.Test.YtglmjmkbahfgaaaPFnLiteralx2
import Derived.Test.YtglmjmkbahfgaaaPFnLiteralx3
import Derived.Test.YtglmjmkbahfgaaaPFnLiteralx4
import Derived.Test.YtglmjmkbahfgaaaPFnLiteralx5
import Derived.Test.YtglmjmkbahfgaaaPFnLiteralx6
import Derived.Test.YtglmjmkbahfgaaaPFnLiteralx7
import Derived.Test.YtglmjmkbahfgaaaBlk
import Derived.Test.YtglmjmkbahfgaaaGen
import Derived.Test.YtglmjmkbahfgaaaIx
import Derived.Test.YtglmjmkbahfgaaaLit
import Derived.Test.YtglmjmkbahfgaaaLst
import Derived.Test.YtglmjmkbahfgaaaMine
import Derived.Test.YtglmjmkbahfgaaaTxt
namespace Go.Proofs.Ytglmjmkbahfgaaa.Pure
open Go.RowKit Go.Proofs.Ytglmjmkbahfgaaa.PFnLiteral Go.Proofs.YtglmjmkbahfgaaaW.PrintWords Go.Proofs.YtglmjmkbahfgaaaW.PrintLast Go.Proofs.YtglmjmkbahfgaaaW.PrintMore Go.Proofs.Ytglmjmkbahfgaaa.Mine

theorem spec_l01New_l0 (b : List Int) (hb : b.length ≤ 4611686018427387904) (d : Nat) : ∀ (k : Nat) (h i : Int), 0 ≤ i → (b.length : Int) - i ≤ d → d < k → ∃ h', spec_l01New.l0 k b h i = some (b, 0, h') := by
  induction d with
  | zero =>
    intro k h i h0 hd hk
    obtain ⟨k, rfl⟩ : ∃ m, k = m + 1 := ⟨k - 1, by omega⟩
    exact ⟨h, by rw [spec_l01New.l0, if_neg (by omega)]⟩
  | succ d ih =>
    intro k h i h0 hd hk
    obtain ⟨k, rfl⟩ : ∃ m, k = m + 1 := ⟨k - 1, by omega⟩
    rw [spec_l01New.l0]
    by_cases c : i < (b.length : Int)
    · rw [if_pos c]
      by_cases c2 : i < 4000
      · rw [if_pos c2, if_pos h0, w64 (n := i + 1) (by omega) (by omega)]
        exact ih k _ (i + 1) (by omega) (by omega) (by omega)
      · rw [if_neg c2]; exact ⟨h, rfl⟩
    · rw [if_neg c]; exact ⟨h, rfl⟩
theorem spec_l01New_ok (b : List Int) (hb : b.length ≤ 4611686018427387904) (k : Nat) (hk : b.length < k) : ∃ h, spec_l01New.f k b = some (b, 0, h) := by
  unfold spec_l01New.f
  exact spec_l01New_l0 b hb b.length k _ 0 (by omega) (by omega) hk

theorem spec_l01Byte_ok (b : List Int) (i h : Int) (hb : b.length ≤ 4611686018427387904) (h0 : 0 ≤ i) (h1 : i ≤ b.length) : ∃ v i' h', spec_l01Byte.f b i h = some (v, i', h') ∧ 0 ≤ v ∧ v ≤ 255 ∧ 0 ≤ i' ∧ i' ≤ b.length := by
  unfold spec_l01Byte.f
  by_cases c : i < (b.length : Int)
  · rw [if_pos c, if_pos h0, w64 (n := i + 1) (by omega) (by omega)]
    exact ⟨_, _, _, rfl, (and_255 _).1, (and_255 _).2, by omega, by omega⟩
  · rw [if_neg c]
    exact ⟨_, _, _, rfl, (and_255 _).1, (and_255 _).2, h0, h1⟩

theorem spec_l01Below_ok (b : List Int) (i h a : Int) (hb : b.length ≤ 4611686018427387904) (h0 : 0 ≤ i) (h1 : i ≤ b.length) : ∃ v i' h', spec_l01Below.f b i h a = some (v, i', h') ∧ 0 ≤ v ∧ (0 < a → v < a) ∧ (a ≤ 0 → v = 0) ∧ 0 ≤ i' ∧ i' ≤ b.length := by
  unfold spec_l01Below.f
  by_cases c : a ≤ 0
  · rw [if_pos c]
    exact ⟨_, _, _, rfl, by omega, fun h => by omega, fun _ => rfl, h0, h1⟩
  · rw [if_neg c]
    by_cases c2 : a ≤ 256
    · rw [if_pos c2]
      obtain ⟨v, i', h', e, v0, v1, j0, j1⟩ := spec_l01Byte_ok b i h hb h0 h1
      rw [e, Option.bind_some, if_neg (by omega)]
      have := tmod_range (x := v) (a := a) v0 (by omega)
      exact ⟨_, _, _, rfl, this.1, fun _ => this.2, fun h => by omega, j0, j1⟩
    · rw [if_neg c2]
      obtain ⟨v, i', h', e, v0, v1, j0, j1⟩ := spec_l01Byte_ok b i h hb h0 h1
      rw [e, Option.bind_some]
      obtain ⟨u, i2, h2, e, u0, u1, j0, j1⟩ := spec_l01Byte_ok b i' h' hb j0 j1
      dsimp only at e ⊢
      rw [e, Option.bind_some]
      obtain ⟨x, i3, h3, e, x0, x1, j0, j1⟩ := spec_l01Byte_ok b i2 h2 hb j0 j1
      dsimp only at e ⊢
      rw [e, Option.bind_some]
      obtain ⟨y, i4, h4, e, y0, y1, j0, j1⟩ := spec_l01Byte_ok b i3 h3 hb j0 j1
      dsimp only at e ⊢
      rw [e, Option.bind_some, if_neg (by omega)]
      have := tmod_range (x := wrap64 ((wrap64 ((wrap64 ((wrap64 (v * 16777216)) + (wrap64 (u * 65536)))) + (wrap64 (x * 256)))) + y)) (a := a) (by
        rw [w64 (n := v * 16777216) (by omega) (by omega), w64 (n := u * 65536) (by omega) (by omega), w64 (n := x * 256) (by omega) (by omega)]
        rw [w64 (n := v * 16777216 + u * 65536) (by omega) (by omega)]
        rw [w64 (n := v * 16777216 + u * 65536 + x * 256) (by omega) (by omega)]
        rw [w64 (by omega) (by omega)]
        omega) (by omega)
      exact ⟨_, _, _, rfl, this.1, fun _ => this.2, fun h => by omega, j0, j1⟩

theorem spec_l01Of_ok (b : List Int) (i h : Int) (l : List ByteArray) (hb : b.length ≤ 4611686018427387904) (h0 : 0 ≤ i) (h1 : i ≤ b.length) (hl : 0 < l.length) : ∃ w i' h', spec_l01Of.f b i h l = some (w, i', h') ∧ w ∈ l ∧ 0 ≤ i' ∧ i' ≤ b.length := by
  unfold spec_l01Of.f
  obtain ⟨v, i', h', e, v0, v1, _, j0, j1⟩ := spec_l01Below_ok b i h (l.length : Int) hb h0 h1
  have v2 := v1 (by omega)
  rw [e, Option.bind_some, if_pos v0, if_pos v2]
  refine ⟨_, _, _, rfl, ?_, j0, j1⟩
  unfold rdOf
  rw [List.getD_eq_getElem?_getD, List.getElem?_eq_getElem (show v.toNat < l.length by omega)]
  exact List.getElem_mem _

def linesL : List ByteArray := [(⟨#[]⟩ : ByteArray), (⟨#[97]⟩ : ByteArray), (⟨#[98, 32, 99]⟩ : ByteArray), (⟨#[32, 102, 97, 114]⟩ : ByteArray), (⟨#[9, 116, 97, 98]⟩ : ByteArray), (⟨#[]⟩ : ByteArray), (⟨#[120]⟩ : ByteArray)]
theorem linesL_size (x : ByteArray) (h : x ∈ linesL) : x.size ≤ 4 := by
  simp only [linesL, List.mem_cons, List.not_mem_nil, or_false] at h
  rcases h with h | h | h | h | h | h | h <;> (rw [h]; decide)
theorem spec_l05Lines_l0 (b : List Int) (hb : b.length ≤ 4611686018427387904) (d : Nat) : ∀ (k : Nat) (l : List ByteArray) (n i h : Int), n = d → 0 ≤ i → i ≤ b.length → l.length + d ≤ 6 → (∀ x ∈ l, x ∈ linesL) → d < k →
    ∃ l' i' h', spec_l05Lines.l0 k l n b i h = some (l', i', h') ∧ l'.length ≤ 6 ∧ (∀ x ∈ l', x ∈ linesL) ∧ 0 ≤ i' ∧ i' ≤ b.length := by
  induction d with
  | zero =>
    intro k l n i h hn h0 h1 hl hx hk
    obtain ⟨k, rfl⟩ : ∃ m, k = m + 1 := ⟨k - 1, by omega⟩
    exact ⟨l, i, h, by rw [spec_l05Lines.l0, if_neg (by omega)], by omega, hx, h0, h1⟩
  | succ d ih =>
    intro k l n i h hn h0 h1 hl hx hk
    obtain ⟨k, rfl⟩ : ∃ m, k = m + 1 := ⟨k - 1, by omega⟩
    obtain ⟨w, i', h', e, hw, j0, j1⟩ := spec_l01Of_ok b i h linesL hb h0 h1 (by decide)
    unfold linesL at e
    rw [spec_l05Lines.l0, if_pos (by omega), e, Option.bind_some, if_pos (by omega), w64 (n := n - 1) (by omega) (by omega)]
    exact ih k (l ++ [w]) (n - 1) i' h' (by omega) j0 j1 (by rw [List.length_append, List.length_singleton]; omega) (fun x hm => by
      rcases List.mem_append.mp hm with hm | hm
      · exact hx x hm
      · rw [List.mem_singleton.mp hm]; exact hw) (by omega)
theorem spec_l05Lines_ok (b : List Int) (i h : Int) (hb : b.length ≤ 4611686018427387904) (h0 : 0 ≤ i) (h1 : i ≤ b.length) (k : Nat) (hk : 10 ≤ k) :
    ∃ l' i' h', spec_l05Lines.f k b i h = some (l', i', h') ∧ l'.length ≤ 6 ∧ (∀ x ∈ l', x ∈ linesL) ∧ 0 ≤ i' ∧ i' ≤ b.length := by
  unfold spec_l05Lines.f
  obtain ⟨v, i', h', e, v0, v1, _, j0, j1⟩ := spec_l01Below_ok b i h 7 hb h0 h1
  have v2 := v1 (by omega)
  rw [e, Option.bind_some]
  exact spec_l05Lines_l0 b hb v.toNat k [] v i' h' (by omega) j0 j1 (by rw [List.length_nil]; omega) (fun x hx => absurd hx (by simp)) (by omega)

theorem lines_tot (l : List ByteArray) (h : ∀ x ∈ l, x ∈ linesL) : totS l ≤ 4 * l.length := by
  induction l with
  | nil => exact Nat.le_refl _
  | cons x r ih =>
    have h1 := linesL_size x (h x (by simp))
    have h2 := ih fun y hy => h y (by simp [hy])
    rw [totS, List.length_cons]; omega
theorem spec_MakeLines_ok (b : List Int) (hb : b.length ≤ 4611686018427387904) (k : Nat) (hk : b.length + 10 ≤ k) : ∃ l, spec_MakeLines.f k b = some l ∧ l.length ≤ 6 ∧ totS l ≤ 24 ∧ ∀ x ∈ l, x ∈ linesL := by
  obtain ⟨h, e⟩ := spec_l01New_ok b hb k (by omega)
  unfold spec_MakeLines.f
  rw [e, Option.bind_some]
  obtain ⟨l, i', h', e, hl, hx, _, _⟩ := spec_l05Lines_ok b 0 h hb (by omega) (by omega) k (by omega)
  dsimp only at e ⊢
  rw [e, Option.bind_some]
  have := lines_tot l hx
  exact ⟨l, rfl, hl, by omega, hx⟩

theorem strings_Repeat_nl (n : Int) (h0 : 0 ≤ n) (h1 : n ≤ 70368744177664) : strings_Repeat.f (⟨#[10]⟩ : ByteArray) n = some (nl n.toNat) := by
  unfold strings_Repeat.f
  have hz : (⟨#[10]⟩ : ByteArray).size = 1 := rfl
  rw [if_pos ⟨h0, by omega, by rw [hz]; omega⟩, repeatL_nl]

theorem strings_Join_nl (l : List ByteArray) (h0 : 0 < l.length) (h1 : l.length ≤ 4194304) (hb : totS l ≤ 35184372088832) : strings_Join.f l (⟨#[10]⟩ : ByteArray) = some (keepM l) := by
  unfold strings_Join.f
  have e : (Lib.join (l.map (·.data.toList)) (⟨#[10]⟩ : ByteArray).data.toList).length = (keepM l).size := by rw [← join_keep, ← size_dl]
  have hs := keepM_size l
  rw [if_pos ⟨h0, by omega, by rw [e]; omega⟩]
  exact congrArg some (join_keep l)

theorem impl_spot_ok (s : ByteArray) (p : Int) : impl_spot.f s p = some (spotM s p) := by
  unfold impl_spot.f; rw [mn_mx_spotM]

theorem impl_byteAt_ok (s : ByteArray) (p : Int) : impl_byteAt.f s p = some (byteM s p) := by
  have h0 := spotM_lo s p
  have h1 := spotM_hi s p
  have h2 := bt_lo s (spotM s p)
  have h3 := bt_hi s (spotM s p)
  simp only [impl_byteAt.f, impl_spot_ok, Option.bind_some]
  unfold byteM
  by_cases h : spotM s p = (s.size : Int)
  · rw [if_pos h, if_pos h]
  · rw [if_neg h, if_neg h, if_pos h0, if_pos (by omega), w64 (by omega) (by omega)]

theorem impl_isWhite_ok (b : Int) : impl_isWhite.f b = some (whB b) := by
  unfold impl_isWhite.f
  by_cases h : b = 32
  · rw [if_pos h, whB_iff.mpr (.inl h)]
  · rw [if_neg h]
    by_cases h9 : b = 9
    · rw [h9]; rfl
    · rw [whB_not.mpr (by omega)]; simp [h9]

theorem impl_isFar_ok (s : ByteArray) : impl_isFar.f s = some (far s) := by
  simp only [impl_isFar.f, impl_byteAt_ok, impl_isWhite_ok, Option.bind_some]; rfl

theorem impl_FoldBlock_l0 (l : List ByteArray) (hl : l.length ≤ 4194304) (d : Nat) : ∀ (k : Nat) (out last : ByteArray) (many i : Int), 0 ≤ i → (l.length : Int) - i = d → 0 ≤ many → 2 * d < k →
    (out.size : Int) + many + totS (l.drop i.toNat) + 2 * d ≤ 70368744177664 →
    impl_FoldBlock.l0 k out last many l (l.length : Int) i = some (fbN out last many.toNat (l.drop i.toNat)) := by
  induction d with
  | zero =>
    intro k out last many i h0 hd hm hk hb
    obtain ⟨k, rfl⟩ : ∃ m, k = m + 1 := ⟨k - 1, by omega⟩
    rw [impl_FoldBlock.l0, if_neg (by omega), drop_end _ _ (by omega)]
    rfl
  | succ d ih =>
    intro k out last many i h0 hd hm hk hb
    obtain ⟨k, rfl⟩ : ∃ m, k = m + 2 := ⟨k - 2, by omega⟩
    have hi : i < (l.length : Int) := by omega
    have hdr : l.drop i.toNat = rdOf ByteArray.empty l i :: l.drop (i + 1).toNat := drop_at ByteArray.empty l i h0 hi
    rw [hdr] at hb ⊢
    rw [impl_FoldBlock.l0, if_pos hi, if_pos h0, if_pos hi]
    generalize rdOf ByteArray.empty l i = x at hb ⊢
    simp only [totS] at hb
    simp only [fbN, impl_isFar_ok, Option.bind_some]
    have ei : wrap64 (i + 1) = i + 1 := w64 (by omega) (by omega)
    by_cases hx : x.size = 0
    · rw [if_pos (tl_nil.mpr hx), if_pos hx, w64 (n := many + 1) (by omega) (by omega), ei]
      have := ih (k + 1) out last (many + 1) (i + 1) (by omega) (by omega) (by omega) (by omega) (by omega)
      rw [show (many + 1).toNat = many.toNat + 1 by omega] at this
      exact this
    · rw [if_neg (fun c => hx (tl_nil.mp c)), if_neg hx]
      have rest : ∀ (s : ByteArray) (k' : Nat), 2 * d < k' → s.size ≤ many.toNat + 1 → (if out.size + s.size ≤ 9223372036854775807 then (if (out ++ s).size + x.size ≤ 9223372036854775807 then (impl_FoldBlock.l0 k' ((out ++ s) ++ x) x 0 l (l.length : Int) (i + 1)) else (none)) else (none)) = some (fbN (out ++ s ++ x) x 0 (l.drop (i + 1).toNat)) := fun s k' hk' hs => by
        rw [if_pos (by omega), if_pos (by rw [size_app]; omega)]
        exact ih k' _ x 0 (i + 1) (by omega) (by omega) (by omega) hk' (by rw [size_app, size_app]; omega)
      by_cases hlast : last.size = 0
      · rw [if_pos (tl_nil.mpr hlast), strings_Repeat_nl many hm (by omega), Option.bind_some, ei]
        unfold fbSep
        rw [if_pos hlast]
        exact rest (nl many.toNat) (k + 1) (by omega) (by rw [nl_size]; omega)
      · rw [if_neg (fun c => hlast (tl_nil.mp c))]
        have key : ∀ b : Bool, (far last || far x) = b → impl_FoldBlock.j1 (k + 1) out many x l (l.length : Int) i b = some (fbN (out ++ fbSep last many.toNat x ++ x) x 0 (l.drop (i + 1).toNat)) := fun b hb2 => by
          unfold fbSep
          rw [if_neg hlast, hb2, impl_FoldBlock.j1, ei]
          cases b with
          | true =>
            rw [if_pos rfl, if_pos rfl, w64 (n := many + 1) (by omega) (by omega), strings_Repeat_nl (many + 1) (by omega) (by omega), Option.bind_some, show (many + 1).toNat = many.toNat + 1 by omega]
            exact rest (nl (many.toNat + 1)) k (by omega) (by rw [nl_size]; omega)
          | false =>
            rw [if_neg (by decide), if_neg (show ¬ (false = true) by decide)]
            by_cases hz : many = 0
            · rw [if_pos hz, if_pos (show many.toNat = 0 by omega)]
              exact rest sp k (by omega) (by rw [sp_size]; omega)
            · rw [if_neg hz, if_neg (show ¬ many.toNat = 0 by omega), strings_Repeat_nl many hm (by omega), Option.bind_some]
              exact rest (nl many.toNat) k (by omega) (by rw [nl_size]; omega)
        cases hf : far last with
        | true => rw [if_pos rfl]; exact key true (by rw [hf]; rfl)
        | false => rw [if_neg (by decide)]; exact key (far x) (by rw [hf]; rfl)
theorem impl_FoldBlock_ok (l : List ByteArray) (hl : l.length ≤ 4194304) (hb : totS l ≤ 35184372088832) (k : Nat) (hk : 2 * l.length < k) : impl_FoldBlock.f k l = some (foldBlockM l) := by
  have := impl_FoldBlock_l0 l hl l.length k ⟨#[]⟩ ⟨#[]⟩ 0 0 (by omega) (by omega) (by omega) hk (by rw [show (0 : Int).toNat = 0 from rfl, List.drop_zero, size_none]; omega)
  exact this

theorem impl_BlockText_j2 (l : List ByteArray) (chomp : Int) (n : Nat) (body : ByteArray) (hl : l.length ≤ 4194304) (hn : n ≤ l.length) (hb : body.size ≤ 70368744177664) (k : Nat) (hk : 1 ≤ k) :
    impl_BlockText.j2 k l chomp (n : Int) body = some (if chomp = 1 then body else if chomp = 2 then body ++ nl (1 + l.length - n) else body ++ nl 1) := by
  obtain ⟨k, rfl⟩ : ∃ m, k = m + 1 := ⟨k - 1, by omega⟩
  rw [impl_BlockText.j2]
  by_cases c1 : chomp = 1
  · rw [if_pos c1, if_pos c1]
  · rw [if_neg c1, if_neg c1]
    by_cases c2 : chomp = 2
    · rw [if_pos c2, if_pos c2, w64 (n := 1 + (l.length : Int)) (by omega) (by omega), w64 (by omega) (by omega), strings_Repeat_nl _ (by omega) (by omega), Option.bind_some, if_pos (by rw [nl_size]; omega)]
      rw [show (1 + (l.length : Int) - n).toNat = 1 + l.length - n by omega]
    · rw [if_neg c2, if_neg c2, if_pos (by omega), nl_one]
theorem impl_BlockText_j1 (l : List ByteArray) (folded : Bool) (chomp : Int) (hl : l.length ≤ 4194304) (hb : totS l ≤ 4194304) (n : Nat) (hn : n = trimN l l.length) (k : Nat) (hk : 2 * l.length + 10 ≤ k) :
    impl_BlockText.j1 k l folded chomp (n : Int) = some (blockM l folded chomp) := by
  obtain ⟨k, rfl⟩ : ∃ m, k = m + 1 := ⟨k - 1, by omega⟩
  have hle := trimN_le l l.length
  unfold blockM
  rw [← hn] at hle ⊢
  rw [impl_BlockText.j1]
  by_cases c0 : n = 0
  · rw [if_pos (by omega), if_pos c0]
    by_cases c2 : chomp = 2
    · rw [if_pos c2, if_pos c2, strings_Repeat_nl _ (by omega) (by omega), Option.bind_some, show ((l.length : Nat) : Int).toNat = l.length by omega]
    · rw [if_neg c2, if_neg c2]
  · have ht := totS_take l n
    have h1 : (l.take n).length = n := by rw [List.length_take]; omega
    have s1 := keepM_size (l.take n)
    have s2 := foldBlockM_size (l.take n)
    rw [if_neg (by omega), if_neg c0, if_pos (by omega), if_pos (by omega), show ((n : Nat) : Int).toNat = n by omega, strings_Join_nl _ (by omega) (by omega) (by omega), Option.bind_some]
    cases folded with
    | false =>
      rw [if_neg (by decide), impl_BlockText_j2 l chomp n _ hl hle (by omega) k (by omega)]
      simp only [Bool.false_eq_true, if_false]
    | true =>
      rw [if_pos rfl, impl_FoldBlock_ok _ (by omega) (by omega) k (by omega), Option.bind_some, impl_BlockText_j2 l chomp n _ hl hle (by omega) k (by omega)]
      simp only [if_true]
theorem impl_BlockText_l0 (l : List ByteArray) (folded : Bool) (chomp : Int) (hl : l.length ≤ 4194304) (hb : totS l ≤ 4194304) (n : Nat) : ∀ (k : Nat), n ≤ l.length → trimN l n = trimN l l.length → 2 * l.length + 20 + n ≤ k →
    impl_BlockText.l0 k l folded chomp (n : Int) = some (blockM l folded chomp) := by
  induction n with
  | zero =>
    intro k hn ht hk
    obtain ⟨k, rfl⟩ : ∃ m, k = m + 1 := ⟨k - 1, by omega⟩
    rw [impl_BlockText.l0, if_neg (by omega)]
    exact impl_BlockText_j1 l folded chomp hl hb 0 ht k (by omega)
  | succ n ih =>
    intro k hn ht hk
    obtain ⟨k, rfl⟩ : ∃ m, k = m + 1 := ⟨k - 1, by omega⟩
    rw [impl_BlockText.l0, if_pos (by omega), w64 (by omega) (by omega), show ((n + 1 : Nat) : Int) - 1 = (n : Int) by omega, if_pos (by omega), if_pos (by omega)]
    have e : rdOf ByteArray.empty l (n : Int) = l.getD n ByteArray.empty := by unfold rdOf; rw [show ((n : Nat) : Int).toNat = n by omega]
    rw [e]
    rw [trimN_succ] at ht
    by_cases c : (l.getD n ByteArray.empty).size = 0
    · rw [if_pos c] at ht
      rw [if_pos (tl_nil.mpr c)]
      exact ih k (by omega) ht (by omega)
    · rw [if_neg c] at ht
      rw [if_neg (fun h => c (tl_nil.mp h))]
      exact impl_BlockText_j1 l folded chomp hl hb (n + 1) ht k (by omega)
theorem impl_BlockText_ok (l : List ByteArray) (folded : Bool) (chomp : Int) (hl : l.length ≤ 4194304) (hb : totS l ≤ 4194304) (k : Nat) (hk : 3 * l.length + 20 ≤ k) : impl_BlockText.f k l folded chomp = some (blockM l folded chomp) := by
  unfold impl_BlockText.f
  exact impl_BlockText_l0 l folded chomp hl hb l.length k (Nat.le_refl _) rfl (by omega)

theorem impl_EndAt_ok (s : ByteArray) (p : Int) (hs : s.size ≤ 140737488351232) : impl_EndAt.f s p = some (endM s p) := by
  have h0 := spotM_lo s p
  have h1 := spotM_hi s p
  simp only [impl_EndAt.f, impl_spot_ok, Option.bind_some]
  rw [if_pos h0, if_pos h1]
  simp only [strings_IndexByte.f, Option.bind_some]
  obtain ⟨r, hr⟩ : ∃ r, Lib.indexByte (s.extract (spotM s p).toNat s.size).data.toList (10 : Int).toNat.toUInt8 = r := ⟨_, rfl⟩
  obtain ⟨a, b, c⟩ := ix_ext h0 h1 hr
  rw [hr]
  unfold endM
  rw [← c]
  by_cases h : r < 0
  · rw [if_pos h, if_pos h]
  · rw [if_neg h, if_neg h, w64 (by omega) (by omega)]

theorem bytealg_LastIndexByteString_l0 (s : ByteArray) (c : Int) (hs : s.size ≤ 140737488351232) (d : Nat) : ∀ (k : Nat) (i : Int), -1 ≤ i → i < s.size → i < d → d < k →
    bytealg_LastIndexByteString.l0 k s c i = some (lastM c s (i + 1) - 1) := by
  induction d with
  | zero =>
    intro k i h0 h1 hd hk
    obtain ⟨k, rfl⟩ : ∃ m, k = m + 1 := ⟨k - 1, by omega⟩
    simp (disch := omega) only [bytealg_LastIndexByteString.l0, if_neg, lastM_neg]
    rfl
  | succ d ih =>
    intro k i h0 h1 hd hk
    obtain ⟨k, rfl⟩ : ∃ m, k = m + 1 := ⟨k - 1, by omega⟩
    by_cases hi : 0 ≤ i
    · by_cases hb : bt s i = c
      · have hb' : bt s (i + 1 - 1) = c := by rw [show i + 1 - 1 = i by omega]; exact hb
        rw [lastM_hit (by omega) hb']
        simp (disch := omega) only [bytealg_LastIndexByteString.l0, if_pos]
        congr 1; omega
      · have hb' : ¬ bt s (i + 1 - 1) = c := by rw [show i + 1 - 1 = i by omega]; exact hb
        rw [lastM_prev (by omega) hb']
        simp (disch := omega) only [bytealg_LastIndexByteString.l0, if_pos, if_neg, w64]
        rw [ih k (i - 1) (by omega) (by omega) (by omega) (by omega)]
        rw [show i + 1 - 1 = i - 1 + 1 by omega]
    · simp (disch := omega) only [bytealg_LastIndexByteString.l0, if_neg, lastM_neg]
      rfl
theorem bytealg_LastIndexByteString_ok (s : ByteArray) (c : Int) (hs : s.size ≤ 140737488351232) (k : Nat) (hk : s.size < k) :
    bytealg_LastIndexByteString.f k s c = some (lastM c s s.size - 1) := by
  unfold bytealg_LastIndexByteString.f
  rw [w64 (by omega) (by omega), bytealg_LastIndexByteString_l0 s c hs s.size k _ (by omega) (by omega) (by omega) hk]
  rw [show (s.size : Int) - 1 + 1 = s.size by omega]

theorem strings_LastIndexByte_ok (s : ByteArray) (c : Int) (hs : s.size ≤ 140737488351232) (k : Nat) (hk : s.size < k) :
    strings_LastIndexByte.f k s c = some (lastM c s s.size - 1) := by
  simp (disch := omega) only [strings_LastIndexByte.f, bytealg_LastIndexByteString_ok, Option.bind_some]

theorem impl_LineAt_ok (s : ByteArray) (p : Int) (hs : s.size ≤ 140737488351232) (k : Nat) (hk : s.size < k) : impl_LineAt.f k s p = some (lineM s p) := by
  have h0 := spotM_lo s p
  have h1 := spotM_hi s p
  have hz : (s.extract 0 (spotM s p).toNat).size = (spotM s p).toNat := by rw [size_ext _ _ _ (by omega)]; omega
  have hl := lastM_lo 10 (s.extract 0 (spotM s p).toNat) ((spotM s p).toNat : Int)
  have hm := lastM_hi (c := 10) (s := s.extract 0 (spotM s p).toNat) (p := ((spotM s p).toNat : Int)) (by omega)
  simp only [impl_LineAt.f, impl_spot_ok, Option.bind_some]
  rw [if_pos h0, if_pos h1, strings_LastIndexByte_ok _ _ (by omega) k (by omega), Option.bind_some, hz, w64 (by omega) (by omega)]
  unfold lineM
  rw [show ((spotM s p).toNat : Int) = spotM s p by omega] at *
  rw [show ∀ x : Int, x - 1 + 1 = x by intro x; omega]
  congr 1
  refine lastM_ext fun i a b => ?_
  rw [bt_ext (by omega) a (by omega)]
  congr 1; omega

theorem impl_IndentAt_l0 (s : ByteArray) (hs : s.size ≤ 140737488351232) (a : Int) (ha : 0 ≤ a) (ha1 : a ≤ s.size) (d : Nat) : ∀ (k : Nat) (i : Int), 0 ≤ i → i ≤ s.size → s.size - i ≤ d → d < k →
    impl_IndentAt.l0 k s a i = some (upto noBl s i - a) := by
  induction d with
  | zero =>
    intro k i h0 h1 hd hk
    obtain ⟨k, rfl⟩ : ∃ m, k = m + 1 := ⟨k - 1, by omega⟩
    simp (disch := omega) only [impl_IndentAt.l0, impl_byteAt_ok, byteM_end, Option.bind_some, w64, if_neg, upto_end]
  | succ d ih =>
    intro k i h0 h1 hd hk
    obtain ⟨k, rfl⟩ : ∃ m, k = m + 1 := ⟨k - 1, by omega⟩
    by_cases hi : i < s.size
    · by_cases hb : bt s i = 32
      · rw [upto_next hi (noBl_not.mpr hb)]
        simp (disch := omega) only [impl_IndentAt.l0, impl_byteAt_ok, byteM_in, Option.bind_some, w64, if_pos]
        rw [ih k (i + 1) (by omega) (by omega) (by omega) (by omega)]
      · rw [upto_hit hi (noBl_iff.mpr hb)]
        simp (disch := omega) only [impl_IndentAt.l0, impl_byteAt_ok, byteM_in, Option.bind_some, w64, if_neg]
    · simp (disch := omega) only [impl_IndentAt.l0, impl_byteAt_ok, byteM_end, Option.bind_some, w64, if_neg, upto_end]
theorem impl_IndentAt_ok (s : ByteArray) (p : Int) (hs : s.size ≤ 140737488351232) (k : Nat) (hk : s.size < k) : impl_IndentAt.f k s p = some (indentM s p) := by
  have h0 := lineM_lo s p
  have h1 := lineM_size s p
  simp (disch := omega) only [impl_IndentAt.f, impl_LineAt_ok, Option.bind_some]
  rw [impl_IndentAt_l0 s hs _ h0 h1 s.size k _ h0 h1 (by omega) hk]
  rfl

theorem impl_White_l0 (s : ByteArray) (hs : s.size ≤ 140737488351232) (d : Nat) : ∀ (k : Nat) (i : Int), 0 ≤ i → i ≤ s.size → s.size - i ≤ d → d < k →
    impl_White.l0 k s i = some (upto noWh s i) := by
  induction d with
  | zero =>
    intro k i h0 h1 hd hk
    obtain ⟨k, rfl⟩ : ∃ m, k = m + 1 := ⟨k - 1, by omega⟩
    simp (disch := omega) only [impl_White.l0, impl_byteAt_ok, byteM_end, impl_isWhite_ok, Option.bind_some, upto_end]
    rfl
  | succ d ih =>
    intro k i h0 h1 hd hk
    obtain ⟨k, rfl⟩ : ∃ m, k = m + 1 := ⟨k - 1, by omega⟩
    by_cases hi : i < s.size
    · simp (disch := omega) only [impl_White.l0, impl_byteAt_ok, byteM_in, impl_isWhite_ok, Option.bind_some]
      by_cases hb : whB (bt s i) = true
      · rw [if_pos hb, upto_next hi (by simp [noWh, hb]), w64 (by omega) (by omega)]
        exact ih k (i + 1) (by omega) (by omega) (by omega) (by omega)
      · rw [if_neg hb, upto_hit hi (by simpa [noWh] using hb)]
    · simp (disch := omega) only [impl_White.l0, impl_byteAt_ok, byteM_end, impl_isWhite_ok, Option.bind_some, upto_end]
      rfl
theorem impl_White_ok (s : ByteArray) (p : Int) (hs : s.size ≤ 140737488351232) (k : Nat) (hk : s.size < k) : impl_White.f k s p = some (whiteM s p) := by
  have h0 := spotM_lo s p
  have h1 := spotM_hi s p
  simp only [impl_White.f, impl_spot_ok, Option.bind_some]
  exact impl_White_l0 s hs s.size k _ h0 h1 (by omega) hk

theorem impl_isBreak_ok (b : Int) : impl_isBreak.f b = some (brB b) := by
  unfold impl_isBreak.f brB
  by_cases h : b = 10
  · simp [h]
  · rw [if_neg h]; simp [h]

theorem impl_Lone_ok (s : ByteArray) (p : Int) (hs : s.size ≤ 140737488351232) (k : Nat) (hk : s.size + 1 < k) : impl_Lone.f k s p = some (loneM s p) := by
  have h0 := lineM_lo s p
  have h1 := spotM_lo s (lineM s p)
  have h2 := whiteM_ge s (lineM s p)
  simp (disch := omega) only [impl_Lone.f, impl_LineAt_ok, impl_White_ok, impl_byteAt_ok, impl_isBreak_ok, Option.bind_some, loneM]

theorem impl_Rest_ok (s : ByteArray) (p : Int) (hs : s.size ≤ 140737488351232) (k : Nat) (hk : s.size < k) : impl_Rest.f k s p = some (restM s p) := by
  have h0 := spotM_lo s p
  have h1 := spotM_hi s p
  simp (disch := omega) only [impl_Rest.f, impl_spot_ok, impl_White_ok, Option.bind_some, restM]
  generalize spotM s p = q at h0 h1 ⊢
  have w0 := whiteM_ge s q
  have w1 := whiteM_le s q
  rw [spotM_in h0 h1] at w0
  generalize whiteM s q = w at w0 w1 ⊢
  simp (disch := omega) only [impl_byteAt_ok, impl_isBreak_ok, impl_EndAt_ok, impl_LineAt_ok, Option.bind_some]
  cases hb : brB (byteM s w) with
  | true => rw [if_pos rfl, if_pos (show true = true ∨ (byteM s w = 35 ∧ (¬ w = q ∨ lineM s q = q)) from .inl rfl)]
  | false =>
    rw [if_neg (by decide)]

    by_cases c35 : byteM s w = 35
    · rw [if_pos c35]
      by_cases cq : w = q
      · rw [if_pos cq]
        by_cases cl : lineM s q = q
        · rw [if_pos cl, if_pos (show false = true ∨ (byteM s w = 35 ∧ (¬ w = q ∨ lineM s q = q)) from .inr ⟨c35, .inr cl⟩)]
        · rw [if_neg cl, if_neg (show ¬ (false = true ∨ (byteM s w = 35 ∧ (¬ w = q ∨ lineM s q = q))) from fun h => by
            rcases h with h | ⟨_, h | h⟩
            · cases h
            · exact h cq
            · exact cl h)]
      · rw [if_neg cq, if_pos (show false = true ∨ (byteM s w = 35 ∧ (¬ w = q ∨ lineM s q = q)) from .inr ⟨c35, .inl cq⟩)]
    · rw [if_neg c35, if_neg (show ¬ (false = true ∨ (byteM s w = 35 ∧ (¬ w = q ∨ lineM s q = q))) from fun h => by
        rcases h with h | ⟨h, _⟩
        · cases h
        · exact c35 h)]

theorem impl_within_ok (a b c : Int) : impl_within.f a b c = some (decide (b ≤ a ∧ a ≤ c)) := by
  unfold impl_within.f
  by_cases h : a ≥ b
  · rw [if_pos h]; simp only [Option.some.injEq, decide_eq_decide]; omega
  · rw [if_neg h]; simp only [Option.some.injEq]; symm; simp only [decide_eq_false_iff_not]; omega

theorem impl_HeadAt_step (s : ByteArray) (hs : s.size ≤ 140737488351232) (d : Nat)
    (ih : 1 ≤ d → ∀ (k : Nat) (digit chomp signs q : Int), 0 ≤ q → q ≤ s.size → headLeft digit chomp ≤ d - 1 → (signs = 0 ↔ chomp = 0) → 0 ≤ signs → signs ≤ 10 → s.size + 3 * (d - 1) + 4 ≤ k → impl_HeadAt.l0 k s digit chomp signs q = some (headN s (d - 1) digit chomp q)) :
    ∀ (k : Nat) (digit chomp signs q : Int), 0 ≤ q → q ≤ s.size → headLeft digit chomp ≤ d → (signs = 0 ↔ chomp = 0) → 0 ≤ signs → signs ≤ 10 → s.size + 3 * d + 4 ≤ k → impl_HeadAt.l0 k s digit chomp signs q = some (headN s d digit chomp q) := by
  intro k digit chomp signs q h0 h1 hl hsg hs0 hs1 hk
  obtain ⟨k, rfl⟩ : ∃ m, k = m + 3 := ⟨k - 3, by omega⟩
  rw [headN_step hl, impl_HeadAt.l0, impl_byteAt_ok, Option.bind_some, impl_within_ok, Option.bind_some]
  have hlo := byteM_lo s q
  have hhi := byteM_hi s q
  have hlt : byteM s q ≠ -1 → q < s.size := fun h => by
    by_cases c : q < s.size
    · exact c
    · exact absurd (byteM_end (by omega)) h
  generalize byteM s q = b at hlo hhi hlt ⊢
  have e1 : wrap64 (q + 1) = q + 1 := w64 (by omega) (by omega)
  have j3f : impl_HeadAt.j3 (k + 1) s b digit chomp signs q false = some (headEnd s digit chomp q) := by
    rw [impl_HeadAt.j3, if_neg (by decide), impl_Rest_ok s q hs k (by omega), Option.bind_some]
    unfold headEnd
    split <;> rfl
  have j2f : ¬ (49 ≤ b ∧ b ≤ 57 ∧ digit = 0) → impl_HeadAt.j2 (k + 2) s b digit chomp signs q false = some (if b = 43 ∧ chomp = 0 then headN s (d - 1) digit 2 (q + 1) else if b = 45 ∧ chomp = 0 then headN s (d - 1) digit 1 (q + 1) else headEnd s digit chomp q) := fun hno => by
    rw [impl_HeadAt.j2, if_neg (by decide)]
    by_cases c0 : chomp = 0
    · have hsz : signs = 0 := hsg.mpr c0
      unfold headLeft at hl
      rw [if_pos c0] at hl
      rw [show (signs == 0) = true by simp [hsz]]
      have ew : wrap64 (signs + 1) = signs + 1 := w64 (by omega) (by omega)
      by_cases c43 : b = 43
      · have := hlt (by omega)
        rw [if_pos c43, impl_HeadAt.j3, if_pos rfl, if_neg (by omega), if_pos (show b = 43 ∧ chomp = 0 from ⟨c43, c0⟩), e1, ew]
        exact ih (by omega) k digit 2 (signs + 1) (q + 1) (by omega) (by omega) (by unfold headLeft; rw [if_neg (show ¬ (2 : Int) = 0 by decide)]; omega) (by omega) (by omega) (by omega) (by omega)
      · rw [if_neg c43, if_neg (show ¬ (b = 43 ∧ chomp = 0) from fun c => c43 c.1)]
        by_cases c45 : b = 45
        · have := hlt (by omega)
          rw [if_pos c45, impl_HeadAt.j3, if_pos rfl, if_pos c45, if_pos (show b = 45 ∧ chomp = 0 from ⟨c45, c0⟩), e1, ew]
          exact ih (by omega) k digit 1 (signs + 1) (q + 1) (by omega) (by omega) (by unfold headLeft; rw [if_neg (show ¬ (1 : Int) = 0 by decide)]; omega) (by omega) (by omega) (by omega) (by omega)
        · rw [if_neg c45, if_neg (show ¬ (b = 45 ∧ chomp = 0) from fun c => c45 c.1)]
          exact j3f
    · rw [show (signs == 0) = false by simp; exact fun c => c0 (hsg.mp c), if_neg (show ¬ (b = 43 ∧ chomp = 0) from fun c => c0 c.2), if_neg (show ¬ (b = 45 ∧ chomp = 0) from fun c => c0 c.2), j3f]
      split
      · rfl
      · split <;> rfl
  by_cases cd : 49 ≤ b ∧ b ≤ 57
  · rw [show decide (49 ≤ b ∧ b ≤ 57) = true by simpa using cd, if_pos rfl]
    by_cases c0 : digit = 0
    · have := hlt (by omega)
      rw [show (digit == 0) = true by simp [c0], if_pos (show 49 ≤ b ∧ b ≤ 57 ∧ digit = 0 from ⟨cd.1, cd.2, c0⟩), impl_HeadAt.j2, if_pos rfl, e1, w64 (n := b - 48) (by omega) (by omega)]
      unfold headLeft at hl
      rw [if_pos c0] at hl
      exact ih (by omega) (k + 1) (b - 48) chomp signs (q + 1) (by omega) (by omega) (by unfold headLeft; rw [if_neg (show ¬ (b - 48 = 0) by omega)]; omega) hsg hs0 hs1 (by omega)
    · rw [show (digit == 0) = false by simp [c0], if_neg (show ¬ (49 ≤ b ∧ b ≤ 57 ∧ digit = 0) from fun c => c0 c.2.2)]
      exact j2f (fun c => c0 c.2.2)
  · rw [show decide (49 ≤ b ∧ b ≤ 57) = false by simp only [decide_eq_false_iff_not]; exact cd, if_neg (by decide), if_neg (show ¬ (49 ≤ b ∧ b ≤ 57 ∧ digit = 0) from fun c => cd ⟨c.1, c.2.1⟩)]
    exact j2f (fun c => cd ⟨c.1, c.2.1⟩)
theorem impl_HeadAt_l0 (s : ByteArray) (hs : s.size ≤ 140737488351232) (d : Nat) : ∀ (k : Nat) (digit chomp signs q : Int), 0 ≤ q → q ≤ s.size → headLeft digit chomp ≤ d → (signs = 0 ↔ chomp = 0) → 0 ≤ signs → signs ≤ 10 → s.size + 3 * d + 4 ≤ k → impl_HeadAt.l0 k s digit chomp signs q = some (headN s d digit chomp q) := by
  induction d with
  | zero => exact impl_HeadAt_step s hs 0 (fun h => by omega)
  | succ d ih => exact impl_HeadAt_step s hs (d + 1) (fun _ => ih)
theorem impl_HeadAt_ok (s : ByteArray) (p : Int) (hs : s.size ≤ 140737488351232) (k : Nat) (hk : s.size + 20 ≤ k) : impl_HeadAt.f k s p = some (headM s p) := by
  have h0 := spotM_lo s p
  have h1 := spotM_hi s p
  obtain ⟨k, rfl⟩ : ∃ m, k = m + 1 := ⟨k - 1, by omega⟩
  simp only [impl_HeadAt.f, impl_spot_ok, impl_byteAt_ok, Option.bind_some, headM]
  generalize spotM s p = q at h0 h1 ⊢
  have jt : impl_HeadAt.j0 (k + 1) s q true = some (0, 0, q, 10) := by rw [impl_HeadAt.j0, if_pos rfl]
  have jf : q < s.size → impl_HeadAt.j0 (k + 1) s q false = some (headN s 2 0 0 (q + 1)) := fun hq => by
    rw [impl_HeadAt.j0, if_neg (by decide), w64 (by omega) (by omega)]
    exact impl_HeadAt_l0 s hs 2 k 0 0 0 (q + 1) (by omega) (by omega) (by decide) (by omega) (by omega) (by omega) (by omega)
  have hlt : byteM s q ≠ -1 → q < s.size := fun h => by
    by_cases c : q < s.size
    · exact c
    · exact absurd (byteM_end (by omega)) h
  by_cases c : byteM s q = 124
  · rw [if_pos c, jf (hlt (by omega)), if_pos (show byteM s q = 124 ∨ byteM s q = 62 from .inl c)]
  · rw [if_neg c]
    by_cases c2 : byteM s q = 62
    · rw [show (byteM s q != 62) = false by simp [c2], jf (hlt (by omega)), if_pos (show byteM s q = 124 ∨ byteM s q = 62 from .inr c2)]
    · rw [show (byteM s q != 62) = true by simp [c2], jt, if_neg (show ¬ (byteM s q = 124 ∨ byteM s q = 62) by omega)]

theorem impl_behindLine_ok (s : ByteArray) (e : Int) (h0 : 0 ≤ e) (h1 : e < s.size) (hs : s.size ≤ 140737488351232) : impl_behindLine.f s e = some (e + 1) := by
  unfold impl_behindLine.f mn
  rw [w64 (by omega) (by omega), if_neg (by omega)]

theorem impl_gapAt_ok (s : ByteArray) (p : Int) : impl_gapAt.f s p = some (gapB (byteM s p)) := by
  simp only [impl_gapAt.f, impl_byteAt_ok, impl_isWhite_ok, impl_isBreak_ok, Option.bind_some, gapB_eq]
  cases whB (byteM s p) <;> rfl

theorem impl_MarkAt_ok (s : ByteArray) (p : Int) (hs : s.size ≤ 140737488351232) (k : Nat) (hk : s.size + 1 < k) : impl_MarkAt.f k s p = some (markM s p) := by
  have h0 := spotM_lo s p
  have h1 := spotM_hi s p
  obtain ⟨k, rfl⟩ : ∃ m, k = m + 1 := ⟨k - 1, by omega⟩
  simp (disch := omega) only [impl_MarkAt.f, impl_spot_ok, impl_LineAt_ok, Option.bind_some, markM]
  generalize spotM s p = q at h0 h1 ⊢
  have jt : impl_MarkAt.j0 (k + 1) s q true = some 0 := by simp only [impl_MarkAt.j0, if_true]
  by_cases hl : lineM s q = q
  · rw [if_pos hl, w64 (by omega) (by omega)]
    by_cases h3 : (s.size : Int) - q < 3
    · rw [if_pos h3, jt, if_neg (by omega)]
    · rw [if_neg h3]
      simp (disch := omega) only [w64, impl_gapAt_ok, Option.bind_some]
      cases hg : gapB (byteM s (q + 3)) with
      | false => rw [show (!false) = true from rfl, jt, if_neg (by simp)]
      | true =>
        rw [show (!true) = false from rfl, if_pos ⟨hl, by omega, rfl⟩]
        simp (disch := omega) only [impl_MarkAt.j0, Bool.false_eq_true, if_false, w64]
        rw [if_pos h0, if_pos (by omega), if_pos (by omega)]
        split
        · rfl
        · split <;> rfl
  · rw [if_neg hl, jt, if_neg (fun h => hl h.1)]

theorem x_impl_literalCol : True := trivial

theorem impl_LiteralAt_l0 (s : ByteArray) (hs : s.size ≤ 1000) (hb : bt s 0 = 124) (r : List ByteArray) : ∀ (k : Nat) (P : ByteArray) (acc : List ByteArray), s = P ++ bodyM r → 4 ≤ P.size → bt P ((P.size : Int) - 1) = 10 → (∀ x ∈ r, okLine x) → (acc ++ r).length ≤ 6 → totS (acc ++ r) ≤ 24 → 3 * r.length + 2000 ≤ k →
    impl_LiteralAt.l0 k s 0 2 P.size 1 4 acc = some (blockM (acc ++ r) false 2, (s.size : Int), 0) := by
  induction r with
  | nil =>
    intro k P acc hP h4 hl hx hn ht hk
    obtain ⟨k, rfl⟩ : ∃ m, k = m + 2 := ⟨k - 2, by omega⟩
    rw [bodyM, app_nil] at hP
    subst hP
    rw [List.append_nil] at hn ht ⊢
    rw [impl_LiteralAt.l0, if_neg (by omega), impl_LiteralAt.j3, if_neg (by decide), if_pos (by omega), if_pos (by omega), hb]
    show (impl_BlockText.f k acc false 2).bind _ = _
    rw [impl_BlockText_ok acc false 2 (by omega) (by omega) k (by omega), Option.bind_some]
  | cons x r ih =>
    intro k P acc hP h4 hl hx hn ht hk
    obtain ⟨k, rfl⟩ : ∃ m, k = m + 3 := ⟨k - 3, by omega⟩
    have hx0 := hx x (by simp)
    rw [bodyM] at hP
    obtain ⟨f1, f2, f3, f4, f5, f6, f7⟩ := line_facts (R := bodyM r) (by omega) hl hx0 hP
    have e1 := impl_EndAt_ok s P.size (by omega)
    have e2 := impl_behindLine_ok s (P.size + 1 + x.size) (by omega) (by omega) (by omega)
    rw [f6] at e1
    have hl0 := fun k' (h : s.size + 10 ≤ k') => impl_Lone_ok s P.size (by omega) k' (by omega)
    have hi0 := fun k' (h : s.size + 10 ≤ k') => impl_IndentAt_ok s P.size (by omega) k' (by omega)
    have hz2 : (⟨#[32]⟩ : ByteArray).size = 1 := rfl
    have hz3 : (⟨#[10]⟩ : ByteArray).size = 1 := rfl
    have hPs : (P ++ ((⟨#[32]⟩ : ByteArray) ++ (x ++ (⟨#[10]⟩ : ByteArray)))).size = P.size + x.size + 2 := by rw [size_app, size_app, size_app, hz2, hz3]; omega
    have step : impl_LiteralAt.l0 k s 0 2 (P.size + 1 + x.size + 1) 1 4 (acc ++ [x]) = some (blockM (acc ++ x :: r) false 2, (s.size : Int), 0) := by
      have := ih k (P ++ ((⟨#[32]⟩ : ByteArray) ++ (x ++ (⟨#[10]⟩ : ByteArray)))) (acc ++ [x]) (by rw [hP, app_assoc, app_assoc, app_assoc]) (by omega) (by
          rw [hPs, show ((P.size + x.size + 2 : Nat) : Int) - 1 = P.size + (1 + x.size) by omega, bt_app_r (by omega), show (1 : Int) + x.size = ((⟨#[32]⟩ : ByteArray).size : Int) + x.size from rfl, bt_app_r (by omega), show (x.size : Int) = x.size + 0 by omega, bt_app_r (by omega)]; rfl)
        (fun y hy => hx y (by simp [hy])) (by rw [List.append_assoc]; exact hn) (by rw [List.append_assoc]; exact ht) (by rw [List.length_cons] at hk; omega)
      rw [List.append_assoc, hPs] at this
      rw [show (P.size : Int) + 1 + x.size + 1 = ((P.size + x.size + 2 : Nat) : Int) by omega]
      exact this
    have hac : acc.length ≤ 6 := by rw [List.length_append] at hn; omega
    rw [impl_LiteralAt.l0, if_pos (by omega), impl_MarkAt_ok s P.size (by omega) (k + 2) (by omega), Option.bind_some, if_pos f2, hl0 (k + 2) (by omega), Option.bind_some, hi0 (k + 2) (by omega), Option.bind_some]
    rw [f3]
    by_cases c : x.size = 0
    · have hx' : x = (⟨#[]⟩ : ByteArray) := size_zero c
      rw [decide_eq_true c, if_pos rfl, impl_LiteralAt.j3, if_pos rfl, if_pos (by omega), hl0 (k + 1) (by omega), Option.bind_some, f3, decide_eq_true c, if_pos rfl, hi0 (k + 1) (by omega), Option.bind_some, f5 c, impl_LiteralAt.j4, if_neg (by decide), if_pos (by omega), e1, Option.bind_some, e2, Option.bind_some, ← hx']
      exact step
    · have h1 := f4 c
      rw [decide_eq_false c, if_neg (by decide), impl_LiteralAt.j3, if_pos (by rw [decide_eq_true (by omega)]), if_pos (by omega), hl0 (k + 1) (by omega), Option.bind_some, f3, decide_eq_false c, if_neg (by decide), impl_LiteralAt.j4, if_pos rfl, e1, Option.bind_some, w64 (by omega) (by omega), if_pos (by omega), if_pos (by omega), if_pos (by omega), if_pos (by omega), Option.bind_some, e2, Option.bind_some,
        show ((P.size : Int) + 1).toNat = P.size + 1 by omega, show ((P.size : Int) + 1 + x.size).toNat = P.size + 1 + x.size by omega, f7]
      exact step
theorem impl_LiteralAt_lines (l : List ByteArray) (hx : ∀ x ∈ l, okLine x) (hl : l.length ≤ 6) (ht : totS l ≤ 24) (k : Nat) (hk : 3000 ≤ k) :
    impl_LiteralAt.f k ((⟨#[124, 49, 43, 10]⟩ : ByteArray) ++ bodyM l) 0 (-1) = some (blockM l false 2, (((⟨#[124, 49, 43, 10]⟩ : ByteArray) ++ bodyM l).size : Int), 0) := by
  obtain ⟨k, rfl⟩ : ∃ m, k = m + 2 := ⟨k - 2, by omega⟩
  have hz : ((⟨#[124, 49, 43, 10]⟩ : ByteArray) ++ bodyM l).size = 4 + totS l + 2 * l.length := by rw [size_app, bodyM_size]; show 4 + _ = _; omega
  have hbt : ∀ i : Int, 0 ≤ i → i < 4 → bt ((⟨#[124, 49, 43, 10]⟩ : ByteArray) ++ bodyM l) i = bt (⟨#[124, 49, 43, 10]⟩ : ByteArray) i := fun i h0 h1 => bt_app_l h0 (show i < ((4 : Nat) : Int) from h1)
  have hrec := impl_LiteralAt_l0 ((⟨#[124, 49, 43, 10]⟩ : ByteArray) ++ bodyM l) (by omega) (by rw [hbt 0 (by omega) (by omega)]; rfl) l k (⟨#[124, 49, 43, 10]⟩ : ByteArray) [] rfl (by decide) (by decide) hx hl ht (by omega)
  generalize hS : (⟨#[124, 49, 43, 10]⟩ : ByteArray) ++ bodyM l = s at *
  have b0 : byteM s 0 = 124 := by rw [byteM_in (by omega) (by omega), hbt 0 (by omega) (by omega)]; rfl
  have b1 : byteM s 1 = 49 := by rw [byteM_in (by omega) (by omega), hbt 1 (by omega) (by omega)]; rfl
  have b2 : byteM s 2 = 43 := by rw [byteM_in (by omega) (by omega), hbt 2 (by omega) (by omega)]; rfl
  have b3 : bt s 3 = 10 := by rw [hbt 3 (by omega) (by omega)]; rfl
  have c3 : byteM s 3 = 10 := by rw [byteM_in (by omega) (by omega), b3]
  have hw : whiteM s 3 = 3 := by unfold whiteM; rw [spotM_in (by omega) (by omega), upto_hit (by omega) (by rw [b3]; rfl)]
  have he : endM s 3 = 3 := by unfold endM; rw [spotM_in (by omega) (by omega), upto_hit (by omega) (by rw [b3]; rfl)]
  have hr : restM s 3 = (3, true) := by
    unfold restM
    rw [spotM_in (by omega) (by omega), hw, if_pos (.inl (by rw [c3]; rfl)), he]
  have hh : headM s 0 = (1, 2, 3, 0) := by
    unfold headM
    rw [spotM_in (by omega) (by omega), if_pos (.inl b0)]
    show headN s 2 0 0 1 = _
    rw [headN, b1, if_pos ⟨by omega, by omega, rfl⟩]
    show headN s 1 (49 - 48) 0 2 = _
    rw [headN, b2, if_neg (by omega), if_pos ⟨rfl, rfl⟩]
    show headEnd s 1 2 3 = _
    unfold headEnd
    rw [hr]
    rfl
  unfold impl_LiteralAt.f
  rw [impl_spot_ok, Option.bind_some, spotM_in (by omega) (by omega), impl_HeadAt_ok s 0 (by omega) (k + 2) (by omega), Option.bind_some, hh]
  rw [if_pos (show (1, 2, 3, 0).2.2.2 = (0 : Int) from rfl), show (1, 2, 3, 0).2.2.1 = (3 : Int) from rfl]
  rw [impl_behindLine_ok s 3 (by omega) (by omega) (by omega), Option.bind_some]
  show impl_LiteralAt.j0 (k + 2) s 0 (-1) 1 2 4 60000 4 true = _
  rw [impl_LiteralAt.j0, if_pos rfl, impl_LiteralAt.j1, show wrap64 (mx (-1) 0 + 1) = 1 by (unfold mx; rw [w64 (by split <;> omega) (by split <;> omega)]; split <;> omega)]
  exact hrec

theorem linesL_ok (x : ByteArray) (h : x ∈ linesL) : okLine x := by
  simp only [linesL, List.mem_cons, List.not_mem_nil, or_false] at h
  rcases h with h | h | h | h | h | h | h <;> rw [h]
  · exact ⟨rfl, .inl rfl⟩
  · exact ⟨rfl, .inr ⟨0, by decide, rfl, rfl, rfl⟩⟩
  · exact ⟨rfl, .inr ⟨0, by decide, rfl, rfl, rfl⟩⟩
  · exact ⟨rfl, .inr ⟨1, by decide, rfl, rfl, rfl⟩⟩
  · exact ⟨rfl, .inr ⟨1, by decide, rfl, rfl, rfl⟩⟩
  · exact ⟨rfl, .inl rfl⟩
  · exact ⟨rfl, .inr ⟨0, by decide, rfl, rfl, rfl⟩⟩
theorem laws_FnLiteral_l0 (l : List ByteArray) (hx : ∀ x ∈ l, x ∈ linesL) (hl : l.length ≤ 6) (ht : totS l ≤ 24) (d : Nat) : ∀ (k : Nat) (a b : ByteArray) (i : Int), 0 ≤ i → (l.length : Int) - i = d → d + 4000 ≤ k → a.size ≤ 1000 → b.size ≤ 1000 →
    a ++ bodyM (l.drop i.toNat) = (⟨#[124, 49, 43, 10]⟩ : ByteArray) ++ bodyM l → b ++ wantM (l.drop i.toNat) = wantM l →
    laws_FnLiteral.l0 k l a b l (l.length : Int) i = some true := by
  induction d with
  | zero =>
    intro k a b i hi hd hk ha hb ea eb
    obtain ⟨k, rfl⟩ : ∃ m, k = m + 1 := ⟨k - 1, by omega⟩
    rw [drop_end _ _ (by omega)] at ea eb
    rw [show bodyM [] = ⟨#[]⟩ from rfl, app_nil] at ea
    rw [show wantM [] = ⟨#[]⟩ from rfl, app_nil] at eb
    subst ea; subst eb
    obtain ⟨w2, A, B, C, w1, w0, wt, hB⟩ := block_ways l
    rw [laws_FnLiteral.l0, if_neg (by omega), impl_LiteralAt_lines l (fun x h => linesL_ok x (hx x h)) hl ht k (by omega), Option.bind_some, impl_BlockText_ok l false 0 (by omega) (by omega) k (by omega), Option.bind_some, impl_BlockText_ok l false 1 (by omega) (by omega) k (by omega), Option.bind_some,
      impl_BlockText_ok l false 2 (by omega) (by omega) k (by omega), Option.bind_some, if_pos rfl, w2, w1, w0, wt, if_pos rfl, if_pos rfl, if_pos rfl]
    have z1 := size_app A B
    have z2 := size_app (A ++ B) C
    have zt := wantM_size l
    rw [wt] at zt
    rw [if_pos (by omega), if_pos (by omega), if_pos (by omega), show (((A ++ B).size : Nat) : Int).toNat = (A ++ B).size by omega, ext_pre (A ++ B) C, if_pos rfl, if_pos (by omega), show ((A.size : Nat) : Int).toNat = A.size by omega, ext_pre A B, if_pos rfl, w64 (by omega) (by omega), decide_eq_true (by omega)]
  | succ d ih =>
    intro k a b i hi hd hk ha hb ea eb
    obtain ⟨k, rfl⟩ : ∃ m, k = m + 1 := ⟨k - 1, by omega⟩
    have hdr := drop_at ByteArray.empty l i hi (by omega)
    have e : rdOf ByteArray.empty l i = l.getD i.toNat ByteArray.empty := rfl
    rw [hdr] at ea eb
    have hsz : (l.getD i.toNat ByteArray.empty).size ≤ 24 := by have := totS_ge l i.toNat; omega
    rw [laws_FnLiteral.l0, if_pos (by omega), if_pos hi, if_pos (by omega), e]
    generalize l.getD i.toNat ByteArray.empty = x at ea eb hsz ⊢
    rw [bodyM] at ea
    rw [wantM] at eb
    have hz2 : (⟨#[32]⟩ : ByteArray).size = 1 := rfl
    have hz3 : (⟨#[10]⟩ : ByteArray).size = 1 := rfl
    have za := congrArg ByteArray.size ea
    have zb := congrArg ByteArray.size eb
    simp only [size_app, bodyM_size, wantM_size, hz2, hz3, show (⟨#[124, 49, 43, 10]⟩ : ByteArray).size = 4 from rfl] at za zb
    rw [if_pos (by omega), if_pos (by rw [size_app]; omega), if_pos (by rw [size_app, size_app]; omega), if_pos (by omega), if_pos (by rw [size_app]; omega), w64 (by omega) (by omega)]
    exact ih k _ _ (i + 1) (by omega) (by omega) (by omega) (by rw [size_app, size_app, size_app]; omega) (by rw [size_app, size_app]; omega) (by rw [← ea, app_assoc, app_assoc, app_assoc]) (by rw [← eb, app_assoc, app_assoc])
theorem FnLiteral : laws_FnLiteral.Pure := by
  intro b h1 h2 _
  by_cases c : (b.length : Int) > 1048576
  · exact ⟨0, by unfold laws_FnLiteral.f; rw [if_pos c]⟩
  · obtain ⟨l, e, hl, ht, hx⟩ := spec_MakeLines_ok b (by omega) (b.length + 5000) (by omega)
    refine ⟨b.length + 5000, ?_⟩
    unfold laws_FnLiteral.f
    rw [if_neg c, e, Option.bind_some]
    exact laws_FnLiteral_l0 l hx hl ht l.length (b.length + 5000) _ _ 0 (by omega) (by omega) (by omega) (by decide) (by decide) rfl (nil_app _)

end Go.Proofs.Ytglmjmkbahfgaaa.Pure
