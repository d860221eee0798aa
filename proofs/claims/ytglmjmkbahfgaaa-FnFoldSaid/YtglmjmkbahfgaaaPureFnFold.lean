/- Lines that are folded differ from lines that are kept in blanks for breaks alone: for all lines that MakeLines can make. -/
import Derived.Test.YtglmjmkbahfgaaaPFnFoldx0
import Derived.Test.YtglmjmkbahfgaaaPFnFoldx1
import Derived.Test.YtglmjmkbahfgaaaPFnFoldx2
import Derived.Test.YtglmjmkbahfgaaaPFnFoldx3
import Derived.Test.YtglmjmkbahfgaaaBlk
import Derived.Test.YtglmjmkbahfgaaaGen
import Derived.Test.YtglmjmkbahfgaaaLst
import Derived.Test.YtglmjmkbahfgaaaMine
import Derived.Test.YtglmjmkbahfgaaaThn
import Derived.Test.YtglmjmkbahfgaaaTxt
namespace Go.Proofs.Ytglmjmkbahfgaaa.Pure
open Go.RowKit Go.Proofs.Ytglmjmkbahfgaaa.PFnFold Go.Proofs.YtglmjmkbahfgaaaW.PrintWords Go.Proofs.YtglmjmkbahfgaaaW.PrintLast Go.Proofs.YtglmjmkbahfgaaaW.PrintMore Go.Proofs.Ytglmjmkbahfgaaa.Mine

def pr58 (x : S58) : ByteArray × Bool := (x.f0, x.f1)
theorem spec_l01New_l0 (b : List Int) (hb : b.length ≤ 4611686018427387904) (d : Nat) : ∀ (k : Nat) (h i : Int), 0 ≤ i → (b.length : Int) - i ≤ d → d < k → ∃ h', spec_l01New.l0 k b h i = some (b, 0, h') := by
  induction d with
  | zero =>
    intro k h i h0 hd hk
    obtain ⟨k, rfl⟩ : ∃ m, k = m + 1 := ⟨k - 1, by omega⟩
    exact ⟨h, by rw [spec_l01New.l0, if_neg (by omega)]⟩
  | succ d ih =>
    intro k h i h0 hd hk
    obtain ⟨k, rfl⟩ : ∃ m, k = m + 1 := ⟨k - 1, by omega⟩
    rw [spec_l01New.l0]
    by_cases c : i < (b.length : Int)
    · rw [if_pos c]
      by_cases c2 : i < 4000
      · rw [if_pos c2, if_pos h0, w64 (n := i + 1) (by omega) (by omega)]
        exact ih k _ (i + 1) (by omega) (by omega) (by omega)
      · rw [if_neg c2]; exact ⟨h, rfl⟩
    · rw [if_neg c]; exact ⟨h, rfl⟩
theorem spec_l01New_ok (b : List Int) (hb : b.length ≤ 4611686018427387904) (k : Nat) (hk : b.length < k) : ∃ h, spec_l01New.f k b = some (b, 0, h) := by
  unfold spec_l01New.f
  exact spec_l01New_l0 b hb b.length k _ 0 (by omega) (by omega) hk

theorem spec_l01Byte_ok (b : List Int) (i h : Int) (hb : b.length ≤ 4611686018427387904) (h0 : 0 ≤ i) (h1 : i ≤ b.length) : ∃ v i' h', spec_l01Byte.f b i h = some (v, i', h') ∧ 0 ≤ v ∧ v ≤ 255 ∧ 0 ≤ i' ∧ i' ≤ b.length := by
  unfold spec_l01Byte.f
  by_cases c : i < (b.length : Int)
  · rw [if_pos c, if_pos h0, w64 (n := i + 1) (by omega) (by omega)]
    exact ⟨_, _, _, rfl, (and_255 _).1, (and_255 _).2, by omega, by omega⟩
  · rw [if_neg c]
    exact ⟨_, _, _, rfl, (and_255 _).1, (and_255 _).2, h0, h1⟩

theorem spec_l01Below_ok (b : List Int) (i h a : Int) (hb : b.length ≤ 4611686018427387904) (h0 : 0 ≤ i) (h1 : i ≤ b.length) : ∃ v i' h', spec_l01Below.f b i h a = some (v, i', h') ∧ 0 ≤ v ∧ (0 < a → v < a) ∧ (a ≤ 0 → v = 0) ∧ 0 ≤ i' ∧ i' ≤ b.length := by
  unfold spec_l01Below.f
  by_cases c : a ≤ 0
  · rw [if_pos c]
    exact ⟨_, _, _, rfl, by omega, fun h => by omega, fun _ => rfl, h0, h1⟩
  · rw [if_neg c]
    by_cases c2 : a ≤ 256
    · rw [if_pos c2]
      obtain ⟨v, i', h', e, v0, v1, j0, j1⟩ := spec_l01Byte_ok b i h hb h0 h1
      rw [e, Option.bind_some, if_neg (by omega)]
      have := tmod_range (x := v) (a := a) v0 (by omega)
      exact ⟨_, _, _, rfl, this.1, fun _ => this.2, fun h => by omega, j0, j1⟩
    · rw [if_neg c2]
      obtain ⟨v, i', h', e, v0, v1, j0, j1⟩ := spec_l01Byte_ok b i h hb h0 h1
      rw [e, Option.bind_some]
      obtain ⟨u, i2, h2, e, u0, u1, j0, j1⟩ := spec_l01Byte_ok b i' h' hb j0 j1
      dsimp only at e ⊢
      rw [e, Option.bind_some]
      obtain ⟨x, i3, h3, e, x0, x1, j0, j1⟩ := spec_l01Byte_ok b i2 h2 hb j0 j1
      dsimp only at e ⊢
      rw [e, Option.bind_some]
      obtain ⟨y, i4, h4, e, y0, y1, j0, j1⟩ := spec_l01Byte_ok b i3 h3 hb j0 j1
      dsimp only at e ⊢
      rw [e, Option.bind_some, if_neg (by omega)]
      have := tmod_range (x := wrap64 ((wrap64 ((wrap64 ((wrap64 (v * 16777216)) + (wrap64 (u * 65536)))) + (wrap64 (x * 256)))) + y)) (a := a) (by
        rw [w64 (n := v * 16777216) (by omega) (by omega), w64 (n := u * 65536) (by omega) (by omega), w64 (n := x * 256) (by omega) (by omega)]
        rw [w64 (n := v * 16777216 + u * 65536) (by omega) (by omega)]
        rw [w64 (n := v * 16777216 + u * 65536 + x * 256) (by omega) (by omega)]
        rw [w64 (by omega) (by omega)]
        omega) (by omega)
      exact ⟨_, _, _, rfl, this.1, fun _ => this.2, fun h => by omega, j0, j1⟩

theorem spec_l01Of_ok (b : List Int) (i h : Int) (l : List ByteArray) (hb : b.length ≤ 4611686018427387904) (h0 : 0 ≤ i) (h1 : i ≤ b.length) (hl : 0 < l.length) : ∃ w i' h', spec_l01Of.f b i h l = some (w, i', h') ∧ w ∈ l ∧ 0 ≤ i' ∧ i' ≤ b.length := by
  unfold spec_l01Of.f
  obtain ⟨v, i', h', e, v0, v1, _, j0, j1⟩ := spec_l01Below_ok b i h (l.length : Int) hb h0 h1
  have v2 := v1 (by omega)
  rw [e, Option.bind_some, if_pos v0, if_pos v2]
  refine ⟨_, _, _, rfl, ?_, j0, j1⟩
  unfold rdOf
  rw [List.getD_eq_getElem?_getD, List.getElem?_eq_getElem (show v.toNat < l.length by omega)]
  exact List.getElem_mem _

def linesL : List ByteArray := [(⟨#[]⟩ : ByteArray), (⟨#[97]⟩ : ByteArray), (⟨#[98, 32, 99]⟩ : ByteArray), (⟨#[32, 102, 97, 114]⟩ : ByteArray), (⟨#[9, 116, 97, 98]⟩ : ByteArray), (⟨#[]⟩ : ByteArray), (⟨#[120]⟩ : ByteArray)]
theorem linesL_size (x : ByteArray) (h : x ∈ linesL) : x.size ≤ 4 := by
  simp only [linesL, List.mem_cons, List.not_mem_nil, or_false] at h
  rcases h with h | h | h | h | h | h | h <;> (rw [h]; decide)
theorem spec_l05Lines_l0 (b : List Int) (hb : b.length ≤ 4611686018427387904) (d : Nat) : ∀ (k : Nat) (l : List ByteArray) (n i h : Int), n = d → 0 ≤ i → i ≤ b.length → l.length + d ≤ 6 → (∀ x ∈ l, x ∈ linesL) → d < k →
    ∃ l' i' h', spec_l05Lines.l0 k l n b i h = some (l', i', h') ∧ l'.length ≤ 6 ∧ (∀ x ∈ l', x ∈ linesL) ∧ 0 ≤ i' ∧ i' ≤ b.length := by
  induction d with
  | zero =>
    intro k l n i h hn h0 h1 hl hx hk
    obtain ⟨k, rfl⟩ : ∃ m, k = m + 1 := ⟨k - 1, by omega⟩
    exact ⟨l, i, h, by rw [spec_l05Lines.l0, if_neg (by omega)], by omega, hx, h0, h1⟩
  | succ d ih =>
    intro k l n i h hn h0 h1 hl hx hk
    obtain ⟨k, rfl⟩ : ∃ m, k = m + 1 := ⟨k - 1, by omega⟩
    obtain ⟨w, i', h', e, hw, j0, j1⟩ := spec_l01Of_ok b i h linesL hb h0 h1 (by decide)
    unfold linesL at e
    rw [spec_l05Lines.l0, if_pos (by omega), e, Option.bind_some, if_pos (by omega), w64 (n := n - 1) (by omega) (by omega)]
    exact ih k (l ++ [w]) (n - 1) i' h' (by omega) j0 j1 (by rw [List.length_append, List.length_singleton]; omega) (fun x hm => by
      rcases List.mem_append.mp hm with hm | hm
      · exact hx x hm
      · rw [List.mem_singleton.mp hm]; exact hw) (by omega)
theorem spec_l05Lines_ok (b : List Int) (i h : Int) (hb : b.length ≤ 4611686018427387904) (h0 : 0 ≤ i) (h1 : i ≤ b.length) (k : Nat) (hk : 10 ≤ k) :
    ∃ l' i' h', spec_l05Lines.f k b i h = some (l', i', h') ∧ l'.length ≤ 6 ∧ (∀ x ∈ l', x ∈ linesL) ∧ 0 ≤ i' ∧ i' ≤ b.length := by
  unfold spec_l05Lines.f
  obtain ⟨v, i', h', e, v0, v1, _, j0, j1⟩ := spec_l01Below_ok b i h 7 hb h0 h1
  have v2 := v1 (by omega)
  rw [e, Option.bind_some]
  exact spec_l05Lines_l0 b hb v.toNat k [] v i' h' (by omega) j0 j1 (by rw [List.length_nil]; omega) (fun x hx => absurd hx (by simp)) (by omega)

theorem lines_tot (l : List ByteArray) (h : ∀ x ∈ l, x ∈ linesL) : totS l ≤ 4 * l.length := by
  induction l with
  | nil => exact Nat.le_refl _
  | cons x r ih =>
    have h1 := linesL_size x (h x (by simp))
    have h2 := ih fun y hy => h y (by simp [hy])
    rw [totS, List.length_cons]; omega
theorem spec_MakeLines_ok (b : List Int) (hb : b.length ≤ 4611686018427387904) (k : Nat) (hk : b.length + 10 ≤ k) : ∃ l, spec_MakeLines.f k b = some l ∧ l.length ≤ 6 ∧ totS l ≤ 24 ∧ ∀ x ∈ l, x ∈ linesL := by
  obtain ⟨h, e⟩ := spec_l01New_ok b hb k (by omega)
  unfold spec_MakeLines.f
  rw [e, Option.bind_some]
  obtain ⟨l, i', h', e, hl, hx, _, _⟩ := spec_l05Lines_ok b 0 h hb (by omega) (by omega) k (by omega)
  dsimp only at e ⊢
  rw [e, Option.bind_some]
  have := lines_tot l hx
  exact ⟨l, rfl, hl, by omega, hx⟩

theorem strings_Repeat_nl (n : Int) (h0 : 0 ≤ n) (h1 : n ≤ 70368744177664) : strings_Repeat.f (⟨#[10]⟩ : ByteArray) n = some (nl n.toNat) := by
  unfold strings_Repeat.f
  have hz : (⟨#[10]⟩ : ByteArray).size = 1 := rfl
  rw [if_pos ⟨h0, by omega, by rw [hz]; omega⟩, repeatL_nl]

theorem strings_Join_nl (l : List ByteArray) (h0 : 0 < l.length) (h1 : l.length ≤ 4194304) (hb : totS l ≤ 35184372088832) : strings_Join.f l (⟨#[10]⟩ : ByteArray) = some (keepM l) := by
  unfold strings_Join.f
  have e : (Lib.join (l.map (·.data.toList)) (⟨#[10]⟩ : ByteArray).data.toList).length = (keepM l).size := by rw [← join_keep, ← size_dl]
  have hs := keepM_size l
  rw [if_pos ⟨h0, by omega, by rw [e]; omega⟩]
  exact congrArg some (join_keep l)

theorem impl_spot_ok (s : ByteArray) (p : Int) : impl_spot.f s p = some (spotM s p) := by
  unfold impl_spot.f; rw [mn_mx_spotM]

theorem impl_byteAt_ok (s : ByteArray) (p : Int) : impl_byteAt.f s p = some (byteM s p) := by
  have h0 := spotM_lo s p
  have h1 := spotM_hi s p
  have h2 := bt_lo s (spotM s p)
  have h3 := bt_hi s (spotM s p)
  simp only [impl_byteAt.f, impl_spot_ok, Option.bind_some]
  unfold byteM
  by_cases h : spotM s p = (s.size : Int)
  · rw [if_pos h, if_pos h]
  · rw [if_neg h, if_neg h, if_pos h0, if_pos (by omega), w64 (by omega) (by omega)]

theorem impl_isWhite_ok (b : Int) : impl_isWhite.f b = some (whB b) := by
  unfold impl_isWhite.f
  by_cases h : b = 32
  · rw [if_pos h, whB_iff.mpr (.inl h)]
  · rw [if_neg h]
    by_cases h9 : b = 9
    · rw [h9]; rfl
    · rw [whB_not.mpr (by omega)]; simp [h9]

theorem impl_isFar_ok (s : ByteArray) : impl_isFar.f s = some (far s) := by
  simp only [impl_isFar.f, impl_byteAt_ok, impl_isWhite_ok, Option.bind_some]; rfl

theorem impl_FoldBlock_l0 (l : List ByteArray) (hl : l.length ≤ 4194304) (d : Nat) : ∀ (k : Nat) (out last : ByteArray) (many i : Int), 0 ≤ i → (l.length : Int) - i = d → 0 ≤ many → 2 * d < k →
    (out.size : Int) + many + totS (l.drop i.toNat) + 2 * d ≤ 70368744177664 →
    impl_FoldBlock.l0 k out last many l (l.length : Int) i = some (fbN out last many.toNat (l.drop i.toNat)) := by
  induction d with
  | zero =>
    intro k out last many i h0 hd hm hk hb
    obtain ⟨k, rfl⟩ : ∃ m, k = m + 1 := ⟨k - 1, by omega⟩
    rw [impl_FoldBlock.l0, if_neg (by omega), drop_end _ _ (by omega)]
    rfl
  | succ d ih =>
    intro k out last many i h0 hd hm hk hb
    obtain ⟨k, rfl⟩ : ∃ m, k = m + 2 := ⟨k - 2, by omega⟩
    have hi : i < (l.length : Int) := by omega
    have hdr : l.drop i.toNat = rdOf ByteArray.empty l i :: l.drop (i + 1).toNat := drop_at ByteArray.empty l i h0 hi
    rw [hdr] at hb ⊢
    rw [impl_FoldBlock.l0, if_pos hi, if_pos h0, if_pos hi]
    generalize rdOf ByteArray.empty l i = x at hb ⊢
    simp only [totS] at hb
    simp only [fbN, impl_isFar_ok, Option.bind_some]
    have ei : wrap64 (i + 1) = i + 1 := w64 (by omega) (by omega)
    by_cases hx : x.size = 0
    · rw [if_pos (tl_nil.mpr hx), if_pos hx, w64 (n := many + 1) (by omega) (by omega), ei]
      have := ih (k + 1) out last (many + 1) (i + 1) (by omega) (by omega) (by omega) (by omega) (by omega)
      rw [show (many + 1).toNat = many.toNat + 1 by omega] at this
      exact this
    · rw [if_neg (fun c => hx (tl_nil.mp c)), if_neg hx]
      have rest : ∀ (s : ByteArray) (k' : Nat), 2 * d < k' → s.size ≤ many.toNat + 1 → (if out.size + s.size ≤ 9223372036854775807 then (if (out ++ s).size + x.size ≤ 9223372036854775807 then (impl_FoldBlock.l0 k' ((out ++ s) ++ x) x 0 l (l.length : Int) (i + 1)) else (none)) else (none)) = some (fbN (out ++ s ++ x) x 0 (l.drop (i + 1).toNat)) := fun s k' hk' hs => by
        rw [if_pos (by omega), if_pos (by rw [size_app]; omega)]
        exact ih k' _ x 0 (i + 1) (by omega) (by omega) (by omega) hk' (by rw [size_app, size_app]; omega)
      by_cases hlast : last.size = 0
      · rw [if_pos (tl_nil.mpr hlast), strings_Repeat_nl many hm (by omega), Option.bind_some, ei]
        unfold fbSep
        rw [if_pos hlast]
        exact rest (nl many.toNat) (k + 1) (by omega) (by rw [nl_size]; omega)
      · rw [if_neg (fun c => hlast (tl_nil.mp c))]
        have key : ∀ b : Bool, (far last || far x) = b → impl_FoldBlock.j1 (k + 1) out many x l (l.length : Int) i b = some (fbN (out ++ fbSep last many.toNat x ++ x) x 0 (l.drop (i + 1).toNat)) := fun b hb2 => by
          unfold fbSep
          rw [if_neg hlast, hb2, impl_FoldBlock.j1, ei]
          cases b with
          | true =>
            rw [if_pos rfl, if_pos rfl, w64 (n := many + 1) (by omega) (by omega), strings_Repeat_nl (many + 1) (by omega) (by omega), Option.bind_some, show (many + 1).toNat = many.toNat + 1 by omega]
            exact rest (nl (many.toNat + 1)) k (by omega) (by rw [nl_size]; omega)
          | false =>
            rw [if_neg (by decide), if_neg (show ¬ (false = true) by decide)]
            by_cases hz : many = 0
            · rw [if_pos hz, if_pos (show many.toNat = 0 by omega)]
              exact rest sp k (by omega) (by rw [sp_size]; omega)
            · rw [if_neg hz, if_neg (show ¬ many.toNat = 0 by omega), strings_Repeat_nl many hm (by omega), Option.bind_some]
              exact rest (nl many.toNat) k (by omega) (by rw [nl_size]; omega)
        cases hf : far last with
        | true => rw [if_pos rfl]; exact key true (by rw [hf]; rfl)
        | false => rw [if_neg (by decide)]; exact key (far x) (by rw [hf]; rfl)
theorem impl_FoldBlock_ok (l : List ByteArray) (hl : l.length ≤ 4194304) (hb : totS l ≤ 35184372088832) (k : Nat) (hk : 2 * l.length < k) : impl_FoldBlock.f k l = some (foldBlockM l) := by
  have := impl_FoldBlock_l0 l hl l.length k ⟨#[]⟩ ⟨#[]⟩ 0 0 (by omega) (by omega) (by omega) hk (by rw [show (0 : Int).toNat = 0 from rfl, List.drop_zero, size_none]; omega)
  exact this

theorem impl_BlockText_j2 (l : List ByteArray) (chomp : Int) (n : Nat) (body : ByteArray) (hl : l.length ≤ 4194304) (hn : n ≤ l.length) (hb : body.size ≤ 70368744177664) (k : Nat) (hk : 1 ≤ k) :
    impl_BlockText.j2 k l chomp (n : Int) body = some (if chomp = 1 then body else if chomp = 2 then body ++ nl (1 + l.length - n) else body ++ nl 1) := by
  obtain ⟨k, rfl⟩ : ∃ m, k = m + 1 := ⟨k - 1, by omega⟩
  rw [impl_BlockText.j2]
  by_cases c1 : chomp = 1
  · rw [if_pos c1, if_pos c1]
  · rw [if_neg c1, if_neg c1]
    by_cases c2 : chomp = 2
    · rw [if_pos c2, if_pos c2, w64 (n := 1 + (l.length : Int)) (by omega) (by omega), w64 (by omega) (by omega), strings_Repeat_nl _ (by omega) (by omega), Option.bind_some, if_pos (by rw [nl_size]; omega)]
      rw [show (1 + (l.length : Int) - n).toNat = 1 + l.length - n by omega]
    · rw [if_neg c2, if_neg c2, if_pos (by omega), nl_one]
theorem impl_BlockText_j1 (l : List ByteArray) (folded : Bool) (chomp : Int) (hl : l.length ≤ 4194304) (hb : totS l ≤ 4194304) (n : Nat) (hn : n = trimN l l.length) (k : Nat) (hk : 2 * l.length + 10 ≤ k) :
    impl_BlockText.j1 k l folded chomp (n : Int) = some (blockM l folded chomp) := by
  obtain ⟨k, rfl⟩ : ∃ m, k = m + 1 := ⟨k - 1, by omega⟩
  have hle := trimN_le l l.length
  unfold blockM
  rw [← hn] at hle ⊢
  rw [impl_BlockText.j1]
  by_cases c0 : n = 0
  · rw [if_pos (by omega), if_pos c0]
    by_cases c2 : chomp = 2
    · rw [if_pos c2, if_pos c2, strings_Repeat_nl _ (by omega) (by omega), Option.bind_some, show ((l.length : Nat) : Int).toNat = l.length by omega]
    · rw [if_neg c2, if_neg c2]
  · have ht := totS_take l n
    have h1 : (l.take n).length = n := by rw [List.length_take]; omega
    have s1 := keepM_size (l.take n)
    have s2 := foldBlockM_size (l.take n)
    rw [if_neg (by omega), if_neg c0, if_pos (by omega), if_pos (by omega), show ((n : Nat) : Int).toNat = n by omega, strings_Join_nl _ (by omega) (by omega) (by omega), Option.bind_some]
    cases folded with
    | false =>
      rw [if_neg (by decide), impl_BlockText_j2 l chomp n _ hl hle (by omega) k (by omega)]
      simp only [Bool.false_eq_true, if_false]
    | true =>
      rw [if_pos rfl, impl_FoldBlock_ok _ (by omega) (by omega) k (by omega), Option.bind_some, impl_BlockText_j2 l chomp n _ hl hle (by omega) k (by omega)]
      simp only [if_true]
theorem impl_BlockText_l0 (l : List ByteArray) (folded : Bool) (chomp : Int) (hl : l.length ≤ 4194304) (hb : totS l ≤ 4194304) (n : Nat) : ∀ (k : Nat), n ≤ l.length → trimN l n = trimN l l.length → 2 * l.length + 20 + n ≤ k →
    impl_BlockText.l0 k l folded chomp (n : Int) = some (blockM l folded chomp) := by
  induction n with
  | zero =>
    intro k hn ht hk
    obtain ⟨k, rfl⟩ : ∃ m, k = m + 1 := ⟨k - 1, by omega⟩
    rw [impl_BlockText.l0, if_neg (by omega)]
    exact impl_BlockText_j1 l folded chomp hl hb 0 ht k (by omega)
  | succ n ih =>
    intro k hn ht hk
    obtain ⟨k, rfl⟩ : ∃ m, k = m + 1 := ⟨k - 1, by omega⟩
    rw [impl_BlockText.l0, if_pos (by omega), w64 (by omega) (by omega), show ((n + 1 : Nat) : Int) - 1 = (n : Int) by omega, if_pos (by omega), if_pos (by omega)]
    have e : rdOf ByteArray.empty l (n : Int) = l.getD n ByteArray.empty := by unfold rdOf; rw [show ((n : Nat) : Int).toNat = n by omega]
    rw [e]
    rw [trimN_succ] at ht
    by_cases c : (l.getD n ByteArray.empty).size = 0
    · rw [if_pos c] at ht
      rw [if_pos (tl_nil.mpr c)]
      exact ih k (by omega) ht (by omega)
    · rw [if_neg c] at ht
      rw [if_neg (fun h => c (tl_nil.mp h))]
      exact impl_BlockText_j1 l folded chomp hl hb (n + 1) ht k (by omega)
theorem impl_BlockText_ok (l : List ByteArray) (folded : Bool) (chomp : Int) (hl : l.length ≤ 4194304) (hb : totS l ≤ 4194304) (k : Nat) (hk : 3 * l.length + 20 ≤ k) : impl_BlockText.f k l folded chomp = some (blockM l folded chomp) := by
  unfold impl_BlockText.f
  exact impl_BlockText_l0 l folded chomp hl hb l.length k (Nat.le_refl _) rfl (by omega)

theorem laws_thin_l0 (s : ByteArray) (hs : s.size ≤ 4194304) (d : Nat) : ∀ (k : Nat) (o : List Int) (i : Nat), s.size - i = d → i ≤ s.size → o.length ≤ i → d < k →
    laws_thin.l0 k s o (i : Int) = some (strOfNums (o ++ thinL (s.data.toList.drop i))) := by
  induction d with
  | zero =>
    intro k o i hd hi ho hk
    obtain ⟨k, rfl⟩ : ∃ m, k = m + 1 := ⟨k - 1, by omega⟩
    rw [laws_thin.l0, if_neg (by omega), List.drop_of_length_le (by rw [size_dl]; omega)]
    show _ = some (strOfNums (o ++ []))
    rw [List.append_nil]
  | succ d ih =>
    intro k o i hd hi ho hk
    obtain ⟨k, rfl⟩ : ∃ m, k = m + 1 := ⟨k - 1, by omega⟩
    have hl : i < s.data.toList.length := by rw [size_dl]; omega
    have hb := dl_get hl
    rw [laws_thin.l0, if_pos (by omega), if_pos (by omega), w64 (by omega) (by omega), List.drop_eq_getElem_cons hl, ← hb]
    have e1 : ((i : Int) + 1) = ((i + 1 : Nat) : Int) := by omega
    generalize s.data.toList[i] = b at hb ⊢
    have r1 := ih k o (i + 1) (by omega) (by omega) (by omega) (by omega)
    have r2 := ih k (o ++ [(b.toNat : Int)]) (i + 1) (by omega) (by omega) (by rw [List.length_append, List.length_singleton]; omega) (by omega)
    rw [e1, r1, r2]
    by_cases c1 : b = 10
    · subst c1; rfl
    · rw [if_neg (fun h => c1 (UInt8.toNat_inj.mp (by show b.toNat = 10; omega)))]
      by_cases c2 : b = 32
      · subst c2; rfl
      · rw [if_neg (fun h => c2 (UInt8.toNat_inj.mp (by show b.toNat = 32; omega))), if_pos (by omega)]
        unfold thinL
        have hk : keepU b = true := by simp [keepU, c1, c2]
        rw [List.filter_cons, if_pos hk, List.map_cons, List.append_assoc]
        rfl
theorem laws_thin_ok (s : ByteArray) (hs : s.size ≤ 4194304) (k : Nat) (hk : s.size < k) : laws_thin.f k s = some (strOfNums (thinI s)) := by
  unfold laws_thin.f
  have := laws_thin_l0 s hs s.size k [] 0 (by omega) (by omega) (by simp) hk
  rw [List.drop_zero, List.nil_append] at this
  exact this

theorem impl_FoldFlow_l0 (l : List S58) (hl : l.length ≤ 4194304) (d : Nat) : ∀ (k : Nat) (out : ByteArray) (glue : Bool) (many i : Int), 1 ≤ i → (l.length : Int) - i = d → 0 ≤ many → 2 * d < k →
    (out.size : Int) + many + totP ((l.drop i.toNat).map pr58) + 2 * d ≤ 70368744177664 →
    impl_FoldFlow.l0 k l out glue many i = some (ffN out glue many.toNat ((l.drop i.toNat).map pr58)) := by
  induction d with
  | zero =>
    intro k out glue many i h0 hd hm hk hb
    obtain ⟨k, rfl⟩ : ∃ m, k = m + 1 := ⟨k - 1, by omega⟩
    rw [impl_FoldFlow.l0, if_neg (by omega), drop_end _ _ (by omega)]
    rfl
  | succ d ih =>
    intro k out glue many i h0 hd hm hk hb
    obtain ⟨k, rfl⟩ : ∃ m, k = m + 2 := ⟨k - 2, by omega⟩
    have hi : i < (l.length : Int) := by omega
    have hdr : l.drop i.toNat = rd_T58 l i :: l.drop (i + 1).toNat := drop_at z58 l i (by omega) hi
    have hlast : ((l.drop (i + 1).toNat).map pr58 = []) ↔ ¬ i < (l.length : Int) - 1 := by
      rw [List.map_eq_nil_iff, List.drop_eq_nil_iff]; omega
    rw [hdr, List.map_cons] at hb ⊢
    have ei : wrap64 (i + 1) = i + 1 := w64 (by omega) (by omega)
    have el : wrap64 ((l.length : Int) - 1) = (l.length : Int) - 1 := w64 (by omega) (by omega)
    rw [impl_FoldFlow.l0, if_pos hi, if_pos (by omega), el]
    generalize rd_T58 l i = x at hb ⊢
    have hpx : pr58 x = (x.f0, x.f1) := rfl
    rw [hpx] at hb ⊢
    simp only [totP] at hb
    simp only [ffN]
    have rest : ∀ (s : ByteArray), s.size ≤ many.toNat + 1 → (if out.size + s.size ≤ 9223372036854775807 then (if (out ++ s).size + x.f0.size ≤ 9223372036854775807 then (impl_FoldFlow.l0 k l ((out ++ s) ++ x.f0) x.f1 0 (i + 1)) else (none)) else (none)) = some (ffN (out ++ s ++ x.f0) x.f1 0 ((l.drop (i + 1).toNat).map pr58)) := fun s hs => by
      rw [if_pos (by omega), if_pos (by rw [size_app]; omega)]
      exact ih k _ x.f1 0 (i + 1) (by omega) (by omega) (by omega) (by omega) (by rw [size_app, size_app]; omega)
    have jf : impl_FoldFlow.j1 (k + 1) l out glue many i false x.f0 x.f1 = some (ffN (out ++ ffSep glue many.toNat ++ x.f0) x.f1 0 ((l.drop (i + 1).toNat).map pr58)) := by
      rw [impl_FoldFlow.j1, if_neg (by decide), ei]
      unfold ffSep
      by_cases hz : many > 0
      · rw [if_pos hz, if_pos (show many.toNat > 0 by omega), strings_Repeat_nl many hm (by omega), Option.bind_some]
        exact rest (nl many.toNat) (by rw [nl_size]; omega)
      · rw [if_neg hz, if_neg (show ¬ many.toNat > 0 by omega)]
        cases glue with
        | true =>
          rw [if_pos rfl, if_pos rfl]
          have := rest (⟨#[]⟩ : ByteArray) (by rw [size_none]; omega)
          rw [if_pos (by rw [size_none]; omega)] at this
          rw [app_nil] at this ⊢
          exact this
        | false =>
          rw [if_neg (by decide), if_neg (show ¬ (false = true) by decide)]
          exact rest sp (by rw [sp_size]; omega)
    by_cases hx : x.f0.size = 0
    · rw [if_pos (tl_nil.mpr hx)]
      cases hg : x.f1 with
      | true =>
        rw [if_pos rfl, if_neg (show ¬ (x.f0.size = 0 ∧ true = false ∧ ¬ (l.drop (i + 1).toNat).map pr58 = []) by simp)]
        rw [hg] at jf
        exact jf
      | false =>
        rw [if_neg (by decide)]
        by_cases hL : i < (l.length : Int) - 1
        · rw [show decide (i < (l.length : Int) - 1) = true by simpa using hL, impl_FoldFlow.j1, if_pos rfl, if_pos (show x.f0.size = 0 ∧ false = false ∧ ¬ (l.drop (i + 1).toNat).map pr58 = [] from ⟨hx, rfl, fun c => (hlast.mp c) hL⟩), ei, w64 (n := many + 1) (by omega) (by omega)]
          have := ih k out glue (many + 1) (i + 1) (by omega) (by omega) (by omega) (by omega) (by omega)
          rw [show (many + 1).toNat = many.toNat + 1 by omega] at this
          exact this
        · rw [show decide (i < (l.length : Int) - 1) = false by simpa using hL, if_neg (show ¬ (x.f0.size = 0 ∧ false = false ∧ ¬ (l.drop (i + 1).toNat).map pr58 = []) from fun c => c.2.2 (hlast.mpr hL))]
          rw [hg] at jf
          exact jf
    · rw [if_neg (fun c => hx (tl_nil.mp c)), if_neg (show ¬ (x.f0.size = 0 ∧ x.f1 = false ∧ ¬ (l.drop (i + 1).toNat).map pr58 = []) from fun c => hx c.1)]
      exact jf
theorem impl_FoldFlow_ok (l : List S58) (hl : l.length ≤ 4194304) (hb : totP (l.map pr58) ≤ 35184372088832) (k : Nat) (hk : 2 * l.length + 2 < k) : impl_FoldFlow.f k l = some (foldFlowM (l.map pr58)) := by
  unfold impl_FoldFlow.f
  cases l with
  | nil => rfl
  | cons x r =>
    rw [if_neg (by simp <;> omega), if_pos (by simp <;> omega)]
    have hpx : pr58 x = (x.f0, x.f1) := rfl
    rw [List.map_cons, hpx] at hb
    simp only [totP] at hb
    have := impl_FoldFlow_l0 (x :: r) hl r.length k x.f0 x.f1 0 1 (by omega) (by simp) (by omega) (by simp at hk <;> omega) (by
      rw [show (1 : Int).toNat = 1 from rfl, List.drop_one, List.tail_cons]; simp at hl; omega)
    rw [show (1 : Int).toNat = 1 from rfl, List.drop_one, List.tail_cons] at this
    exact this

def pieces (l : List ByteArray) : List S58 := l.map fun x => ⟨x, false⟩
theorem pieces_fst (l : List ByteArray) : ((pieces l).map pr58).map (·.1) = l := by
  induction l with
  | nil => rfl
  | cons x r ih => show x :: ((pieces r).map pr58).map (·.1) = _; rw [ih]
theorem pieces_tot (l : List ByteArray) : totP ((pieces l).map pr58) = totS l := by
  induction l with
  | nil => rfl
  | cons x r ih => show x.size + totP ((pieces r).map pr58) = _; rw [ih, totS]
theorem laws_FnFold_l0 (l : List ByteArray) (hl : l.length ≤ 6) (ht : totS l ≤ 24) (d : Nat) : ∀ (k : Nat) (i : Int), 0 ≤ i → (l.length : Int) - i = d → d + 300 ≤ k →
    laws_FnFold.l0 k l (blockM l true 2) (blockM l false 2) (pieces (l.take i.toNat)) l (l.length : Int) i = some true := by
  induction d with
  | zero =>
    intro k i hi hd hk
    obtain ⟨k, rfl⟩ : ∃ m, k = m + 1 := ⟨k - 1, by omega⟩
    have s1 := block_size l true 2
    have s2 := block_size l false 2
    have hp : (pieces l).length = l.length := List.length_map _
    have s3 := foldFlowM_size ((pieces l).map pr58)
    rw [pieces_tot, List.length_map, hp] at s3
    rw [show i.toNat = l.length by omega, List.take_length]
    rw [laws_FnFold.l0, if_neg (by omega), laws_thin_ok _ (by omega) k (by omega), Option.bind_some, laws_thin_ok _ (by omega) k (by omega), Option.bind_some, thinI_block, thinI_block, if_pos rfl]
    rw [if_pos (by have := block_le l; omega), impl_FoldFlow_ok _ (by omega) (by rw [pieces_tot]; omega) k (by omega), Option.bind_some, laws_thin_ok _ (by omega) k (by omega), Option.bind_some, Option.bind_some, thinI_foldFlow, pieces_fst, if_pos rfl]
    by_cases c : (l.length : Int) = 0
    · rw [if_pos c]
    · rw [if_neg c]
      have := block_pos l (by omega)
      rw [decide_eq_true (by omega)]
  | succ d ih =>
    intro k i hi hd hk
    obtain ⟨k, rfl⟩ : ∃ m, k = m + 1 := ⟨k - 1, by omega⟩
    have hn : i.toNat < l.length := by omega
    have hp : (pieces (l.take i.toNat)).length = i.toNat := by unfold pieces; rw [List.length_map, List.length_take]; omega
    rw [laws_FnFold.l0, if_pos (by omega), if_pos hi, if_pos (by omega), if_pos (by omega), w64 (by omega) (by omega)]
    have := ih k (i + 1) (by omega) (by omega) (by omega)
    rw [show (i + 1).toNat = i.toNat + 1 by omega, List.take_succ_eq_append_getElem hn] at this
    unfold pieces at this ⊢
    rw [List.map_append] at this
    have e : rdOf ByteArray.empty l i = l[i.toNat] := by unfold rdOf; rw [List.getD_eq_getElem?_getD, List.getElem?_eq_getElem hn]; rfl
    rw [e]
    exact this
theorem FnFold : laws_FnFold.Pure := by
  intro b h1 h2 _
  by_cases c : (b.length : Int) > 1048576
  · exact ⟨0, by unfold laws_FnFold.f; rw [if_pos c]⟩
  · obtain ⟨l, e, hl, ht, _⟩ := spec_MakeLines_ok b (by omega) (b.length + 400) (by omega)
    refine ⟨b.length + 400, ?_⟩
    unfold laws_FnFold.f
    rw [if_neg c, e, Option.bind_some, impl_BlockText_ok l true 2 (by omega) (by omega) _ (by omega), Option.bind_some, impl_BlockText_ok l false 2 (by omega) (by omega) _ (by omega), Option.bind_some]
    exact laws_FnFold_l0 l hl ht l.length (b.length + 400) 0 (by omega) (by omega) (by omega)

end Go.Proofs.Ytglmjmkbahfgaaa.Pure
