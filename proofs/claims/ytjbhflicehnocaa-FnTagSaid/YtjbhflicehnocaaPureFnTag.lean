/- A tag in angles is itself, and a handle stands for its prefix: every word that MakeWord can make is tried. -/
import Derived.Test.YtjbhflicehnocaaPFnTagx0
import Derived.Test.YtjbhflicehnocaaPFnTagx1
import Derived.Test.YtjbhflicehnocaaPFnTagx2
import Derived.Test.YtjbhflicehnocaaPFnTagx3
import Derived.Test.YtjbhflicehnocaaPFnTagx4
import Derived.Test.YtjbhflicehnocaaPFnTagx5
import Derived.Test.YtjbhflicehnocaaGen
import Derived.Test.YtjbhflicehnocaaLst
import Derived.Test.YtjbhflicehnocaaMine
import Derived.Test.YtjbhflicehnocaaTxt
namespace Go.Proofs.Ytjbhflicehnocaa.Pure
open Go.RowKit Go.Proofs.Ytjbhflicehnocaa.PFnTag Go.Proofs.YtjbhflicehnocaaW.PrintWords Go.Proofs.YtjbhflicehnocaaW.PrintLast Go.Proofs.YtjbhflicehnocaaW.PrintMore Go.Proofs.Ytjbhflicehnocaa.Mine

def pr51 (x : S51) : ByteArray × ByteArray := (x.f0, x.f1)
theorem spec_l01New_l0 (b : List Int) (hb : b.length ≤ 4611686018427387904) (d : Nat) : ∀ (k : Nat) (h i : Int), 0 ≤ i → (b.length : Int) - i ≤ d → d < k → ∃ h', spec_l01New.l0 k b h i = some (b, 0, h') := by
  induction d with
  | zero =>
    intro k h i h0 hd hk
    obtain ⟨k, rfl⟩ : ∃ m, k = m + 1 := ⟨k - 1, by omega⟩
    exact ⟨h, by rw [spec_l01New.l0, if_neg (by omega)]⟩
  | succ d ih =>
    intro k h i h0 hd hk
    obtain ⟨k, rfl⟩ : ∃ m, k = m + 1 := ⟨k - 1, by omega⟩
    rw [spec_l01New.l0]
    by_cases c : i < (b.length : Int)
    · rw [if_pos c]
      by_cases c2 : i < 4000
      · rw [if_pos c2, if_pos h0, w64 (n := i + 1) (by omega) (by omega)]
        exact ih k _ (i + 1) (by omega) (by omega) (by omega)
      · rw [if_neg c2]; exact ⟨h, rfl⟩
    · rw [if_neg c]; exact ⟨h, rfl⟩
theorem spec_l01New_ok (b : List Int) (hb : b.length ≤ 4611686018427387904) (k : Nat) (hk : b.length < k) : ∃ h, spec_l01New.f k b = some (b, 0, h) := by
  unfold spec_l01New.f
  exact spec_l01New_l0 b hb b.length k _ 0 (by omega) (by omega) hk

theorem spec_l01Byte_ok (b : List Int) (i h : Int) (hb : b.length ≤ 4611686018427387904) (h0 : 0 ≤ i) (h1 : i ≤ b.length) : ∃ v i' h', spec_l01Byte.f b i h = some (v, i', h') ∧ 0 ≤ v ∧ v ≤ 255 ∧ 0 ≤ i' ∧ i' ≤ b.length := by
  unfold spec_l01Byte.f
  by_cases c : i < (b.length : Int)
  · rw [if_pos c, if_pos h0, w64 (n := i + 1) (by omega) (by omega)]
    exact ⟨_, _, _, rfl, (and_255 _).1, (and_255 _).2, by omega, by omega⟩
  · rw [if_neg c]
    exact ⟨_, _, _, rfl, (and_255 _).1, (and_255 _).2, h0, h1⟩

theorem spec_l01Below_ok (b : List Int) (i h a : Int) (hb : b.length ≤ 4611686018427387904) (h0 : 0 ≤ i) (h1 : i ≤ b.length) : ∃ v i' h', spec_l01Below.f b i h a = some (v, i', h') ∧ 0 ≤ v ∧ (0 < a → v < a) ∧ (a ≤ 0 → v = 0) ∧ 0 ≤ i' ∧ i' ≤ b.length := by
  unfold spec_l01Below.f
  by_cases c : a ≤ 0
  · rw [if_pos c]
    exact ⟨_, _, _, rfl, by omega, fun h => by omega, fun _ => rfl, h0, h1⟩
  · rw [if_neg c]
    by_cases c2 : a ≤ 256
    · rw [if_pos c2]
      obtain ⟨v, i', h', e, v0, v1, j0, j1⟩ := spec_l01Byte_ok b i h hb h0 h1
      rw [e, Option.bind_some, if_neg (by omega)]
      have := tmod_range (x := v) (a := a) v0 (by omega)
      exact ⟨_, _, _, rfl, this.1, fun _ => this.2, fun h => by omega, j0, j1⟩
    · rw [if_neg c2]
      obtain ⟨v, i', h', e, v0, v1, j0, j1⟩ := spec_l01Byte_ok b i h hb h0 h1
      rw [e, Option.bind_some]
      obtain ⟨u, i2, h2, e, u0, u1, j0, j1⟩ := spec_l01Byte_ok b i' h' hb j0 j1
      dsimp only at e ⊢
      rw [e, Option.bind_some]
      obtain ⟨x, i3, h3, e, x0, x1, j0, j1⟩ := spec_l01Byte_ok b i2 h2 hb j0 j1
      dsimp only at e ⊢
      rw [e, Option.bind_some]
      obtain ⟨y, i4, h4, e, y0, y1, j0, j1⟩ := spec_l01Byte_ok b i3 h3 hb j0 j1
      dsimp only at e ⊢
      rw [e, Option.bind_some, if_neg (by omega)]
      have := tmod_range (x := wrap64 ((wrap64 ((wrap64 ((wrap64 (v * 16777216)) + (wrap64 (u * 65536)))) + (wrap64 (x * 256)))) + y)) (a := a) (by
        rw [w64 (n := v * 16777216) (by omega) (by omega), w64 (n := u * 65536) (by omega) (by omega), w64 (n := x * 256) (by omega) (by omega)]
        rw [w64 (n := v * 16777216 + u * 65536) (by omega) (by omega)]
        rw [w64 (n := v * 16777216 + u * 65536 + x * 256) (by omega) (by omega)]
        rw [w64 (by omega) (by omega)]
        omega) (by omega)
      exact ⟨_, _, _, rfl, this.1, fun _ => this.2, fun h => by omega, j0, j1⟩

theorem spec_l01Of_ok (b : List Int) (i h : Int) (l : List ByteArray) (hb : b.length ≤ 4611686018427387904) (h0 : 0 ≤ i) (h1 : i ≤ b.length) (hl : 0 < l.length) : ∃ w i' h', spec_l01Of.f b i h l = some (w, i', h') ∧ w ∈ l ∧ 0 ≤ i' ∧ i' ≤ b.length := by
  unfold spec_l01Of.f
  obtain ⟨v, i', h', e, v0, v1, _, j0, j1⟩ := spec_l01Below_ok b i h (l.length : Int) hb h0 h1
  have v2 := v1 (by omega)
  rw [e, Option.bind_some, if_pos v0, if_pos v2]
  refine ⟨_, _, _, rfl, ?_, j0, j1⟩
  unfold rdOf
  rw [List.getD_eq_getElem?_getD, List.getElem?_eq_getElem (show v.toNat < l.length by omega)]
  exact List.getElem_mem _

def wordsL : List ByteArray := [(⟨#[97]⟩ : ByteArray), (⟨#[98]⟩ : ByteArray), (⟨#[107, 101, 121]⟩ : ByteArray), (⟨#[120, 49]⟩ : ByteArray), (⟨#[108, 105, 115, 116]⟩ : ByteArray), (⟨#[195, 169]⟩ : ByteArray), (⟨#[110, 111]⟩ : ByteArray), (⟨#[49, 50]⟩ : ByteArray), (⟨#[45, 51]⟩ : ByteArray), (⟨#[48, 120, 49, 70]⟩ : ByteArray), (⟨#[116, 114, 117, 101]⟩ : ByteArray), (⟨#[110, 117, 108, 108]⟩ : ByteArray), (⟨#[126]⟩ : ByteArray), (⟨#[97, 32, 98]⟩ : ByteArray)]
theorem spec_l01Word_ok (b : List Int) (i h : Int) (hb : b.length ≤ 4611686018427387904) (h0 : 0 ≤ i) (h1 : i ≤ b.length) : ∃ w i' h', spec_l01Word.f b i h = some (w, i', h') ∧ w ∈ wordsL ∧ 0 ≤ i' ∧ i' ≤ b.length := by
  unfold spec_l01Word.f
  obtain ⟨w, i', h', e, hw, j0, j1⟩ := spec_l01Of_ok b i h wordsL hb h0 h1 (by decide)
  unfold wordsL at e
  rw [e, Option.bind_some]
  exact ⟨_, _, _, rfl, hw, j0, j1⟩

theorem spec_MakeWord_ok (b : List Int) (hb : b.length ≤ 4611686018427387904) (k : Nat) (hk : b.length < k) : ∃ w, spec_MakeWord.f k b = some w ∧ w ∈ wordsL := by
  obtain ⟨h, e⟩ := spec_l01New_ok b hb k hk
  unfold spec_MakeWord.f
  rw [e, Option.bind_some]
  obtain ⟨w, i', h', e, hw, _, _⟩ := spec_l01Word_ok b 0 h hb (by omega) (by omega)
  dsimp only at e ⊢
  rw [e, Option.bind_some]
  exact ⟨_, rfl, hw⟩

theorem impl_spot_ok (s : ByteArray) (p : Int) : impl_spot.f s p = some (spotM s p) := by
  unfold impl_spot.f; rw [mn_mx_spotM]

theorem impl_byteAt_ok (s : ByteArray) (p : Int) : impl_byteAt.f s p = some (byteM s p) := by
  have h0 := spotM_lo s p
  have h1 := spotM_hi s p
  have h2 := bt_lo s (spotM s p)
  have h3 := bt_hi s (spotM s p)
  simp only [impl_byteAt.f, impl_spot_ok, Option.bind_some]
  unfold byteM
  by_cases h : spotM s p = (s.size : Int)
  · rw [if_pos h, if_pos h]
  · rw [if_neg h, if_neg h, if_pos h0, if_pos (by omega), w64 (by omega) (by omega)]

theorem impl_isWhite_ok (b : Int) : impl_isWhite.f b = some (whB b) := by
  unfold impl_isWhite.f
  by_cases h : b = 32
  · rw [if_pos h, whB_iff.mpr (.inl h)]
  · rw [if_neg h]
    by_cases h9 : b = 9
    · rw [h9]; rfl
    · rw [whB_not.mpr (by omega)]; simp [h9]

theorem impl_isBreak_ok (b : Int) : impl_isBreak.f b = some (brB b) := by
  unfold impl_isBreak.f brB
  by_cases h : b = 10
  · simp [h]
  · rw [if_neg h]; simp [h]

theorem impl_gapAt_ok (s : ByteArray) (p : Int) : impl_gapAt.f s p = some (gapB (byteM s p)) := by
  simp only [impl_gapAt.f, impl_byteAt_ok, impl_isWhite_ok, impl_isBreak_ok, Option.bind_some, gapB_eq]
  cases whB (byteM s p) <;> rfl

theorem impl_isFlow_ok (b : Int) : impl_isFlow.f b = some (flB b) := by
  unfold impl_isFlow.f flB
  by_cases h1 : b = 44
  · simp [h1]
  · by_cases h2 : b = 91
    · simp [h2]
    · by_cases h3 : b = 93
      · simp [h3]
      · by_cases h4 : b = 123
        · simp [h4]
        · by_cases h5 : b = 125
          · simp [h5]
          · simp [h1, h2, h3, h4, h5]

theorem impl_stretch_l0 (s : ByteArray) (hs : s.size ≤ 140737488351232) (d : Nat) : ∀ (k : Nat) (i : Int), 0 ≤ i → s.size - i ≤ d → d < k →
    impl_stretch.l0 k s i = some (upto stB s i) := by
  induction d with
  | zero =>
    intro k i h0 hd hk
    obtain ⟨k, rfl⟩ : ∃ m, k = m + 1 := ⟨k - 1, by omega⟩
    simp (disch := omega) only [impl_stretch.l0, impl_gapAt_ok, byteM_end, gap_end, Option.bind_some, if_true, upto_end]
  | succ d ih =>
    intro k i h0 hd hk
    obtain ⟨k, rfl⟩ : ∃ m, k = m + 1 := ⟨k - 1, by omega⟩
    by_cases hi : i < s.size
    · simp (disch := omega) only [impl_stretch.l0, impl_gapAt_ok, impl_byteAt_ok, impl_isFlow_ok, byteM_in, Option.bind_some]
      cases hg : gapB (bt s i) with
      | true => rw [if_pos rfl, upto_hit hi (stB_gap hg)]
      | false =>
        rw [if_neg (by decide)]
        cases hf : flB (bt s i) with
        | true => rw [if_pos rfl, upto_hit hi (stB_fl hf)]
        | false =>
          rw [if_neg (by decide), upto_next hi (stB_no hg hf), w64 (by omega) (by omega)]
          exact ih k (i + 1) (by omega) (by omega) (by omega)
    · simp (disch := omega) only [impl_stretch.l0, impl_gapAt_ok, byteM_end, gap_end, Option.bind_some, if_true, upto_end]
theorem impl_stretch_ok (s : ByteArray) (p : Int) (hs : s.size ≤ 140737488351232) (h0 : 0 ≤ p) (k : Nat) (hk : s.size < k) : impl_stretch.f k s p = some (upto stB s p) :=
  impl_stretch_l0 s hs s.size k p h0 (by omega) hk

theorem impl_TagAt_cut (s : ByteArray) (q e : Int) (hs : s.size ≤ 140737488351232) (h0 : 0 ≤ q) (he : q ≤ e) (he1 : e ≤ s.size) :
    (if (wrap64 (e - q)) > 60 then (some ((⟨#[]⟩ : ByteArray), (0 : Int), false)) else (if 0 ≤ q then (if q ≤ e then (if e ≤ (s.size : Int) then (some (s.extract (q : Int).toNat (e : Int).toNat, e, true)) else (none)) else (none)) else (none))) = some (tagCut s q e) := by
  rw [w64 (by omega) (by omega), if_pos h0, if_pos he, if_pos he1]
  unfold tagCut
  split <;> rfl
theorem impl_TagAt_j1 (s : ByteArray) (q e r : Int) (hs : s.size ≤ 140737488351232) (h0 : 0 ≤ q) (he : q ≤ e) (he1 : e ≤ s.size) (hr : q + 2 ≤ r) (hr1 : r ≤ s.size) (k : Nat) (hk : 2 ≤ k) : impl_TagAt.j1 k s q e r = some (tagFin s q e r) := by
  obtain ⟨k, rfl⟩ : ∃ m, k = m + 2 := ⟨k - 2, by omega⟩
  simp (disch := omega) only [impl_TagAt.j1, impl_byteAt_ok, Option.bind_some, w64]
  unfold tagFin
  by_cases c : byteM s r = 62
  · have hlt : r < s.size := by
      by_cases d : r < s.size
      · exact d
      · rw [byteM_end (by omega)] at c; omega
    rw [if_pos c]
    by_cases c2 : r > q + 2
    · rw [show decide (r > q + 2) = true by simpa using c2, if_pos (show byteM s r = 62 ∧ r > q + 2 from ⟨c, c2⟩)]
      simp (disch := omega) only [impl_TagAt.j2, if_true]
      rw [w64 (n := r + 1) (by omega) (by omega)]
      exact impl_TagAt_cut s q (r + 1) hs h0 (by omega) (by omega)
    · rw [show decide (r > q + 2) = false by simpa using c2, if_neg (show ¬ (byteM s r = 62 ∧ r > q + 2) from fun h => c2 h.2)]
      simp only [impl_TagAt.j2, Bool.false_eq_true, if_false]
      exact impl_TagAt_cut s q _ hs h0 he he1
  · rw [if_neg c, if_neg (show ¬ (byteM s r = 62 ∧ r > q + 2) from fun h => c h.1)]
    simp only [impl_TagAt.j2, Bool.false_eq_true, if_false]
    exact impl_TagAt_cut s q _ hs h0 he he1
theorem impl_TagAt_l0 (s : ByteArray) (q e : Int) (hs : s.size ≤ 140737488351232) (h0 : 0 ≤ q) (he : q ≤ e) (he1 : e ≤ s.size) (d : Nat) : ∀ (k : Nat) (i : Int), q + 2 ≤ i → i ≤ s.size → s.size - i ≤ d → d + 3 ≤ k →
    impl_TagAt.l0 k s q e i = some (tagFin s q e (upto clB s i)) := by
  induction d with
  | zero =>
    intro k i hi0 hi1 hd hk
    obtain ⟨k, rfl⟩ : ∃ m, k = m + 1 := ⟨k - 1, by omega⟩
    simp (disch := omega) only [impl_TagAt.l0, impl_byteAt_ok, impl_gapAt_ok, byteM_end, gap_end, Option.bind_some, if_true, upto_end]
    rw [if_neg (by decide)]
    exact impl_TagAt_j1 s q e i hs h0 he he1 hi0 hi1 k (by omega)
  | succ d ih =>
    intro k i hi0 hi1 hd hk
    obtain ⟨k, rfl⟩ : ∃ m, k = m + 1 := ⟨k - 1, by omega⟩
    by_cases hi : i < s.size
    · simp (disch := omega) only [impl_TagAt.l0, impl_byteAt_ok, impl_gapAt_ok, byteM_in, Option.bind_some]
      by_cases h62 : bt s i = 62
      · rw [if_pos h62, upto_hit hi (clB_gt h62)]
        exact impl_TagAt_j1 s q e i hs h0 he he1 hi0 hi1 k (by omega)
      · rw [if_neg h62]
        cases hg : gapB (bt s i) with
        | true =>
          rw [if_pos rfl, upto_hit hi (clB_gap hg)]
          exact impl_TagAt_j1 s q e i hs h0 he he1 hi0 hi1 k (by omega)
        | false =>
          rw [if_neg (by decide), upto_next hi (clB_no h62 hg), w64 (by omega) (by omega)]
          exact ih k (i + 1) (by omega) (by omega) (by omega) (by omega)
    · simp (disch := omega) only [impl_TagAt.l0, impl_byteAt_ok, impl_gapAt_ok, byteM_end, gap_end, Option.bind_some, if_true, upto_end]
      rw [if_neg (by decide)]
      exact impl_TagAt_j1 s q e i hs h0 he he1 hi0 hi1 k (by omega)
theorem impl_TagAt_ok (s : ByteArray) (p : Int) (hs : s.size ≤ 140737488351232) (k : Nat) (hk : s.size + 3 ≤ k) : impl_TagAt.f k s p = some (tagAtM s p) := by
  have h0 := spotM_lo s p
  have h1 := spotM_hi s p
  simp only [impl_TagAt.f, impl_spot_ok, impl_byteAt_ok, Option.bind_some, tagAtM]
  generalize spotM s p = q at h0 h1 ⊢
  by_cases h33 : byteM s q = 33
  · rw [if_pos h33, if_pos h33]
    have e0 := upto_ge stB s q
    have e1 := upto_le (P := stB) h1
    simp (disch := omega) only [impl_stretch_ok, Option.bind_some, w64]
    by_cases h60 : byteM s (q + 1) = 60
    · rw [if_pos h60, if_pos h60]
      have hq1 : q + 1 < s.size := by
        by_cases c : q + 1 < s.size
        · exact c
        · rw [byteM_end (by omega)] at h60; omega
      exact impl_TagAt_l0 s q _ hs h0 e0 e1 s.size k (q + 2) (by omega) (by omega) (by omega) hk
    · rw [if_neg h60, if_neg h60]
      have := impl_TagAt_cut s q _ hs h0 e0 e1
      rw [w64 (by omega) (by omega)] at this
      exact this
  · rw [if_neg h33, if_neg h33]

theorem bytealg_LastIndexByteString_l0 (s : ByteArray) (c : Int) (hs : s.size ≤ 140737488351232) (d : Nat) : ∀ (k : Nat) (i : Int), -1 ≤ i → i < s.size → i < d → d < k →
    bytealg_LastIndexByteString.l0 k s c i = some (lastM c s (i + 1) - 1) := by
  induction d with
  | zero =>
    intro k i h0 h1 hd hk
    obtain ⟨k, rfl⟩ : ∃ m, k = m + 1 := ⟨k - 1, by omega⟩
    simp (disch := omega) only [bytealg_LastIndexByteString.l0, if_neg, lastM_neg]
    rfl
  | succ d ih =>
    intro k i h0 h1 hd hk
    obtain ⟨k, rfl⟩ : ∃ m, k = m + 1 := ⟨k - 1, by omega⟩
    by_cases hi : 0 ≤ i
    · by_cases hb : bt s i = c
      · have hb' : bt s (i + 1 - 1) = c := by rw [show i + 1 - 1 = i by omega]; exact hb
        rw [lastM_hit (by omega) hb']
        simp (disch := omega) only [bytealg_LastIndexByteString.l0, if_pos]
        congr 1; omega
      · have hb' : ¬ bt s (i + 1 - 1) = c := by rw [show i + 1 - 1 = i by omega]; exact hb
        rw [lastM_prev (by omega) hb']
        simp (disch := omega) only [bytealg_LastIndexByteString.l0, if_pos, if_neg, w64]
        rw [ih k (i - 1) (by omega) (by omega) (by omega) (by omega)]
        rw [show i + 1 - 1 = i - 1 + 1 by omega]
    · simp (disch := omega) only [bytealg_LastIndexByteString.l0, if_neg, lastM_neg]
      rfl
theorem bytealg_LastIndexByteString_ok (s : ByteArray) (c : Int) (hs : s.size ≤ 140737488351232) (k : Nat) (hk : s.size < k) :
    bytealg_LastIndexByteString.f k s c = some (lastM c s s.size - 1) := by
  unfold bytealg_LastIndexByteString.f
  rw [w64 (by omega) (by omega), bytealg_LastIndexByteString_l0 s c hs s.size k _ (by omega) (by omega) (by omega) hk]
  rw [show (s.size : Int) - 1 + 1 = s.size by omega]

theorem strings_LastIndexByte_ok (s : ByteArray) (c : Int) (hs : s.size ≤ 140737488351232) (k : Nat) (hk : s.size < k) :
    strings_LastIndexByte.f k s c = some (lastM c s s.size - 1) := by
  simp (disch := omega) only [strings_LastIndexByte.f, bytealg_LastIndexByteString_ok, Option.bind_some]

theorem impl_isWord_ok (b : Int) : impl_isWord.f b = some (wordB b) := by
  unfold impl_isWord.f wordB
  repeat' split
  all_goals
    rw [Option.some.injEq, Bool.eq_iff_iff]
    simp only [beq_iff_eq, decide_eq_true_eq, true_iff]
    omega

theorem impl_nameOk_l0 (s : ByteArray) (hs : s.size ≤ 60) (d : Nat) : ∀ (k : Nat) (i : Int), 1 ≤ i → (s.size : Int) - 1 - i = d → d < k → impl_nameOk.l0 k s i = some (allN wordB s d i) := by
  induction d with
  | zero =>
    intro k i h0 hd hk
    obtain ⟨k, rfl⟩ : ∃ m, k = m + 1 := ⟨k - 1, by omega⟩
    simp (disch := omega) only [impl_nameOk.l0, w64, if_neg, allN]
  | succ d ih =>
    intro k i h0 hd hk
    obtain ⟨k, rfl⟩ : ∃ m, k = m + 1 := ⟨k - 1, by omega⟩
    simp (disch := omega) only [impl_nameOk.l0, w64, if_pos, impl_isWord_ok, Option.bind_some, allN]
    cases wordB (bt s i) with
    | true => rw [if_pos rfl, Bool.true_and]; exact ih k (i + 1) (by omega) (by omega) (by omega)
    | false => rw [if_neg (by decide), Bool.false_and]
theorem impl_nameOk_ok (s : ByteArray) (hs : s.size ≤ 9223372036854775807) (k : Nat) (hk : 70 ≤ k) : impl_nameOk.f k s = some (nameM s) := by
  obtain ⟨k, rfl⟩ : ∃ m, k = m + 1 := ⟨k - 1, by omega⟩
  have jt : impl_nameOk.j0 (k + 1) s true = some false := by simp only [impl_nameOk.j0, if_true]
  unfold impl_nameOk.f nameM
  by_cases h60 : (s.size : Int) > 60
  · rw [if_pos h60, jt, show decide (1 ≤ s.size ∧ s.size ≤ 60 ∧ bt s 0 = 33 ∧ bt s ((s.size : Int) - 1) = 33) = false by simp only [decide_eq_false_iff_not]; omega, Bool.false_and]
  · rw [if_neg h60]
    by_cases h0 : s.size = 0
    · rw [if_pos (tl_nil.mpr h0), jt, show decide (1 ≤ s.size ∧ s.size ≤ 60 ∧ bt s 0 = 33 ∧ bt s ((s.size : Int) - 1) = 33) = false by simp only [decide_eq_false_iff_not]; omega, Bool.false_and]
    · rw [if_neg (fun c => h0 (tl_nil.mp c)), if_pos (by omega), w64 (by omega) (by omega)]
      by_cases hb : bt s 0 = 33
      · rw [if_pos hb, if_pos (by omega), if_pos (by omega)]
        by_cases hl : bt s ((s.size : Int) - 1) = 33
        · rw [show (bt s ((s.size : Int) - 1) != 33) = false by simp [hl]]
          simp only [impl_nameOk.j0, Bool.false_eq_true, if_false]
          rw [show decide (1 ≤ s.size ∧ s.size ≤ 60 ∧ bt s 0 = 33 ∧ bt s ((s.size : Int) - 1) = 33) = true by simp only [decide_eq_true_eq]; omega, Bool.true_and]
          by_cases h1 : s.size = 1
          · obtain ⟨k, rfl⟩ : ∃ m, k = m + 1 := ⟨k - 1, by omega⟩
            rw [h1]
            rw [impl_nameOk.l0, w64 (by omega) (by omega), if_neg (by omega)]
            rfl
          · exact impl_nameOk_l0 s (by omega) (s.size - 2) k 1 (by omega) (by omega) (by omega)
        · rw [show (bt s ((s.size : Int) - 1) != 33) = true by simp [hl], jt, show decide (1 ≤ s.size ∧ s.size ≤ 60 ∧ bt s 0 = 33 ∧ bt s ((s.size : Int) - 1) = 33) = false by simp only [decide_eq_false_iff_not]; omega, Bool.false_and]
      · rw [if_neg hb, jt, show decide (1 ≤ s.size ∧ s.size ≤ 60 ∧ bt s 0 = 33 ∧ bt s ((s.size : Int) - 1) = 33) = false by simp only [decide_eq_false_iff_not]; omega, Bool.false_and]

theorem impl_TagRead_l0 (n rest : ByteArray) (hn : rest.size ≤ 4194304) (l : List S51) (hl : l.length ≤ 4194304) (hz : tot2 (l.map pr51) ≤ 4194304) (d : Nat) : ∀ (k : Nat) (i : Int), 0 ≤ i → (l.length : Int) - i = d → d < k → tot2 ((l.drop i.toNat).map pr51) ≤ 4194304 →
    impl_TagRead.l0 k n rest l (l.length : Int) i = some (if (prefixM n ((l.drop i.toNat).map pr51)).size = 0 then ((⟨#[]⟩ : ByteArray), false) else (prefixM n ((l.drop i.toNat).map pr51) ++ rest, true)) := by
  induction d with
  | zero =>
    intro k i h0 hd hk _
    obtain ⟨k, rfl⟩ : ∃ m, k = m + 1 := ⟨k - 1, by omega⟩
    rw [impl_TagRead.l0, if_neg (by omega), drop_end _ _ (by omega)]
    rw [List.map_nil, prefixM_nil]
    by_cases c2 : n.toList = ([33, 33] : List UInt8)
    · rw [if_pos c2, if_pos c2, if_pos (by omega), if_neg (show ¬ coreTag.size = 0 by decide)]
      rfl
    · rw [if_neg c2, if_neg c2]
      by_cases c1 : n.toList = ([33] : List UInt8)
      · rw [if_pos c1, if_pos c1, if_pos (by omega), if_neg (show ¬ (⟨#[33]⟩ : ByteArray).size = 0 by decide)]
      · rw [if_neg c1, if_neg c1, if_pos (show (⟨#[]⟩ : ByteArray).size = 0 from rfl)]
  | succ d ih =>
    intro k i h0 hd hk ht
    obtain ⟨k, rfl⟩ : ∃ m, k = m + 1 := ⟨k - 1, by omega⟩
    have hi : i < (l.length : Int) := by omega
    have hdr : l.drop i.toNat = rd_T51 l i :: l.drop (i + 1).toNat := drop_at z51 l i h0 hi
    rw [hdr, List.map_cons] at ht
    rw [impl_TagRead.l0, if_pos hi, if_pos h0, if_pos hi, hdr, List.map_cons]
    have hpx : pr51 (rd_T51 l i) = ((rd_T51 l i).f0, (rd_T51 l i).f1) := rfl
    rw [hpx] at ht ⊢
    simp only [tot2] at ht
    by_cases c : (rd_T51 l i).f0 = n
    · have hp : prefixM n (((rd_T51 l i).f0, (rd_T51 l i).f1) :: (l.drop (i + 1).toNat).map pr51) = (rd_T51 l i).f1 := by
        unfold prefixM; simp only [lookH]; rw [if_pos c]
      rw [if_pos (by rw [c]), hp]
      by_cases cz : (rd_T51 l i).f1.size = 0
      · rw [if_pos (tl_nil.mpr cz), if_pos cz]
      · rw [if_neg (fun h => cz (tl_nil.mp h)), if_pos (by omega), if_neg cz]
    · have hp : prefixM n (((rd_T51 l i).f0, (rd_T51 l i).f1) :: (l.drop (i + 1).toNat).map pr51) = prefixM n ((l.drop (i + 1).toNat).map pr51) := by
        unfold prefixM; simp only [lookH]; rw [if_neg c]
      rw [if_neg (fun h => c (tl_inj.mp h)), hp, w64 (by omega) (by omega)]
      exact ih k (i + 1) (by omega) (by omega) (by omega) (by omega)
theorem impl_TagRead_ok (raw : ByteArray) (l : List S51) (hr : raw.size ≤ 4194304) (hl : l.length ≤ 4194304) (hz : tot2 (l.map pr51) ≤ 4194304) (k : Nat) (hk : raw.size + l.length + 90 ≤ k) :
    impl_TagRead.f k raw l = some (tagReadM raw (l.map pr51)) := by
  obtain ⟨k, rfl⟩ : ∃ m, k = m + 3 := ⟨k - 3, by omega⟩
  have jt : impl_TagRead.j0 (k + 3) raw l true = some ((⟨#[]⟩ : ByteArray), false) := by rw [impl_TagRead.j0, if_pos rfl]
  unfold impl_TagRead.f tagReadM
  by_cases c0 : raw.size = 0
  · rw [if_pos (tl_nil.mpr c0), jt, if_pos (.inl c0)]
  · rw [if_neg (fun h => c0 (tl_nil.mp h)), if_pos (by omega)]
    by_cases cb : bt raw 0 = 33
    · rw [show (bt raw 0 != 33) = false by simp [cb], if_neg (show ¬ (raw.size = 0 ∨ ¬ bt raw 0 = 33) from fun h => h.elim c0 (fun h => h cb)), impl_TagRead.j0, if_neg (by decide)]
      have l0 := lastM_lo 33 raw raw.size
      have l1 := lastM_hi (c := 33) (s := raw) (p := (raw.size : Int)) (by omega)
      have tail : ¬ raw.size = 1 → impl_TagRead.j1 (k + 2) raw l false = some (if (lastM 33 raw raw.size).toNat = raw.size ∨ nameM (raw.extract 0 (lastM 33 raw raw.size).toNat) = false ∨ (prefixM (raw.extract 0 (lastM 33 raw raw.size).toNat) (l.map pr51)).size = 0 then ((⟨#[]⟩ : ByteArray), false)
          else (prefixM (raw.extract 0 (lastM 33 raw raw.size).toNat) (l.map pr51) ++ raw.extract (lastM 33 raw raw.size).toNat raw.size, true)) := fun c1 => by
        rw [impl_TagRead.j1, if_neg (by decide), if_neg (fun h => c1 (tl_one.mp h).1), strings_LastIndexByte_ok raw 33 (by omega) (k + 1) (by omega), Option.bind_some]
        generalize lastM 33 raw raw.size = e at l0 l1 ⊢
        rw [w64 (by omega) (by omega), show e - 1 + 1 = e by omega, if_pos l0, if_pos l1]
        have hx : (raw.extract e.toNat raw.size).size = raw.size - e.toNat := size_ext _ _ _ (Nat.le_refl _)
        have hn : (raw.extract 0 e.toNat).size = e.toNat := by rw [size_ext _ _ _ (by omega)]; omega
        by_cases ce : e.toNat = raw.size
        · rw [if_pos (tl_nil.mpr (by omega)), impl_TagRead.j2, if_pos rfl, if_pos (.inl ce)]
        · rw [if_neg (fun h => by have := tl_nil.mp h; omega), impl_nameOk_ok _ (by omega) (k + 1) (by omega), Option.bind_some]
          cases hnm : nameM (raw.extract 0 e.toNat) with
          | false => rw [show (!false) = true from rfl, impl_TagRead.j2, if_pos rfl, if_pos (.inr (.inl rfl))]
          | true =>
            rw [show (!true) = false from rfl, impl_TagRead.j2, if_neg (by decide)]
            have := impl_TagRead_l0 (raw.extract 0 e.toNat) (raw.extract e.toNat raw.size) (by omega) l hl hz l.length k 0 (by omega) (by omega) (by omega) hz
            rw [show (0 : Int).toNat = 0 from rfl, List.drop_zero] at this
            rw [this]
            by_cases cp : (prefixM (raw.extract 0 e.toNat) (l.map pr51)).size = 0
            · rw [if_pos cp, if_pos (.inr (.inr cp))]
            · rw [if_neg cp, if_neg (show ¬ (e.toNat = raw.size ∨ true = false ∨ (prefixM (raw.extract 0 e.toNat) (l.map pr51)).size = 0) from fun h => by
                rcases h with h | h | h
                · omega
                · cases h
                · exact cp h)]
      by_cases c1 : raw.size = 1
      · rw [if_neg (by omega), if_pos c1, impl_TagRead.j1, if_neg (by decide), if_pos ((tl_one (c := 33)).mpr ⟨c1, cb⟩)]
      · rw [if_neg c1]
        by_cases c3 : (raw.size : Int) > 3
        · rw [if_pos c3, if_pos (by omega), w64 (by omega) (by omega)]
          by_cases c60 : bt raw 1 = 60
          · rw [if_pos c60, if_pos (by omega), if_pos (by omega)]
            by_cases c62 : bt raw ((raw.size : Int) - 1) = 62
            · rw [show (bt raw ((raw.size : Int) - 1) == 62) = true by simp [c62], if_pos (show raw.size > 3 ∧ bt raw 1 = 60 ∧ bt raw ((raw.size : Int) - 1) = 62 from ⟨by omega, c60, c62⟩), impl_TagRead.j1, if_pos rfl, w64 (by omega) (by omega), if_pos (by omega), if_pos (by omega), show ((raw.size : Int) - 1).toNat = raw.size - 1 by omega]
            · rw [show (bt raw ((raw.size : Int) - 1) == 62) = false by simp [c62], if_neg (show ¬ (raw.size > 3 ∧ bt raw 1 = 60 ∧ bt raw ((raw.size : Int) - 1) = 62) from fun h => c62 h.2.2)]
              exact tail c1
          · rw [if_neg c60, if_neg (show ¬ (raw.size > 3 ∧ bt raw 1 = 60 ∧ bt raw ((raw.size : Int) - 1) = 62) from fun h => c60 h.2.1)]
            exact tail c1
        · rw [if_neg c3, if_neg (show ¬ (raw.size > 3 ∧ bt raw 1 = 60 ∧ bt raw ((raw.size : Int) - 1) = 62) from fun h => c3 (by omega))]
          exact tail c1
    · rw [show (bt raw 0 != 33) = true by simp [cb], jt, if_pos (.inr cb)]

theorem impl_within_ok (a b c : Int) : impl_within.f a b c = some (decide (b ≤ a ∧ a ≤ c)) := by
  unfold impl_within.f
  by_cases h : a ≥ b
  · rw [if_pos h]; simp only [Option.some.injEq, decide_eq_decide]; omega
  · rw [if_neg h]; simp only [Option.some.injEq]; symm; simp only [decide_eq_false_iff_not]; omega

theorem impl_isPrint_l0 (s : ByteArray) (hs : s.size ≤ 140737488351232) (d : Nat) : ∀ (k : Nat) (i : Int), 0 ≤ i → (s.size : Int) - i = d → d < k → impl_isPrint.l0 k s (s.size : Int) i = some (allN prB s d i) := by
  induction d with
  | zero =>
    intro k i h0 hd hk
    obtain ⟨k, rfl⟩ : ∃ m, k = m + 1 := ⟨k - 1, by omega⟩
    simp (disch := omega) only [impl_isPrint.l0, if_neg, allN]
  | succ d ih =>
    intro k i h0 hd hk
    obtain ⟨k, rfl⟩ : ∃ m, k = m + 1 := ⟨k - 1, by omega⟩
    simp (disch := omega) only [impl_isPrint.l0, w64, if_pos, allN]
    by_cases a : bt s i < 33
    · rw [if_pos a, prB_not.mpr (by omega), Bool.false_and]
    · rw [if_neg a]
      by_cases b : bt s i > 126
      · rw [if_pos b, prB_not.mpr (by omega), Bool.false_and]
      · rw [if_neg b, prB_iff.mpr (by omega), Bool.true_and]
        exact ih k (i + 1) (by omega) (by omega) (by omega)
theorem impl_isPrint_ok (s : ByteArray) (hs : s.size ≤ 140737488351232) (k : Nat) (hk : s.size < k) : impl_isPrint.f k s = some (allN prB s s.size 0) :=
  impl_isPrint_l0 s hs s.size k 0 (by omega) (by omega) hk

theorem impl_HandleOk_ok (n p : ByteArray) (hn : n.size ≤ 9223372036854775807) (hp : p.size ≤ 140737488351232) (k : Nat) (hk : p.size + 70 ≤ k) : impl_HandleOk.f k n p = some (handleM n p) := by
  simp (disch := omega) only [impl_HandleOk.f, impl_nameOk_ok, impl_within_ok, impl_isPrint_ok, Option.bind_some]
  unfold handleM
  cases nameM n with
  | false => simp
  | true =>
    rw [if_pos rfl, show decide ((1 : Int) ≤ (p.size : Int) ∧ (p.size : Int) ≤ 60) = decide (1 ≤ p.size ∧ p.size ≤ 60) by rw [decide_eq_decide]; omega]
    cases decide (1 ≤ p.size ∧ p.size ≤ 60) <;> simp

def tagWords : List ByteArray := [(⟨#[97]⟩ : ByteArray), (⟨#[98]⟩ : ByteArray), (⟨#[107, 101, 121]⟩ : ByteArray), (⟨#[120, 49]⟩ : ByteArray), (⟨#[108, 105, 115, 116]⟩ : ByteArray), (⟨#[195, 169]⟩ : ByteArray), (⟨#[110, 111]⟩ : ByteArray), (⟨#[49, 50]⟩ : ByteArray), (⟨#[45, 51]⟩ : ByteArray), (⟨#[48, 120, 49, 70]⟩ : ByteArray), (⟨#[116, 114, 117, 101]⟩ : ByteArray), (⟨#[110, 117, 108, 108]⟩ : ByteArray), (⟨#[126]⟩ : ByteArray), (⟨#[97, 98]⟩ : ByteArray)]
set_option maxRecDepth 100000 in
theorem laws_FnTag_all : ∀ w ∈ tagWords, laws_FnTag.j0 200 w = some true := by decide +kernel
theorem laws_FnTag_words (w : ByteArray) (h : w ∈ wordsL) : w = (⟨#[97, 32, 98]⟩ : ByteArray) ∨ w ∈ tagWords := by
  simp only [wordsL, List.mem_cons, List.not_mem_nil, or_false] at h
  simp only [tagWords, List.mem_cons, List.not_mem_nil, or_false]
  rcases h with h | h | h | h | h | h | h | h | h | h | h | h | h | h <;> simp only [h, true_or, or_true]
theorem FnTag : laws_FnTag.Pure := by
  intro l0 h1 h2 _
  by_cases c : (l0.length : Int) > 1048576
  · exact ⟨0, by unfold laws_FnTag.f; rw [if_pos c]⟩
  · obtain ⟨w, e, hw⟩ := spec_MakeWord_ok l0 (by omega) (l0.length + 200) (by omega)
    refine ⟨l0.length + 200, ?_⟩
    have up : ∀ v ∈ tagWords, laws_FnTag.j0 (l0.length + 200) v = some true := fun v hv => by
      rw [Nat.add_comm l0.length 200]
      exact more_rounds (g := fun k => laws_FnTag.j0 k v) (fun k => laws_FnTag.mono_l k v) 200 l0.length _ (laws_FnTag_all v hv)
    unfold laws_FnTag.f
    rw [if_neg c, e, Option.bind_some]
    by_cases c2 : w.toList = ([97, 32, 98] : List UInt8)
    · rw [if_pos c2]
      exact up _ (by simp only [tagWords, List.mem_cons, true_or, or_true])
    · rw [if_neg c2]
      refine up w ((laws_FnTag_words w hw).resolve_left fun h => c2 ?_)
      rw [h, ByteArray.toList_eq]

end Go.Proofs.Ytjbhflicehnocaa.Pure
