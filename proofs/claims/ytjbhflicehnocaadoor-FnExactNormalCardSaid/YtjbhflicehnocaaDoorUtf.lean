/- Plain lemmas on a rune at a place of a text: no program in sight. -/
import Derived.Test.YtjbhflicehnocaaDoorRune
import Derived.Lib.TrimUEq
namespace Go.Proofs.YtjbhflicehnocaaDoor.Mine
open Go.RowKit Go.Proofs.YtjbhflicehnocaaDoorW.PrintWords Go.Proofs.YtjbhflicehnocaaDoorW.PrintLast Go.Proofs.YtjbhflicehnocaaDoorW.PrintMore

theorem bt_lst (s : ByteArray) (i : Nat) : bt s (i : Int) = ((s.data.toList.getD i 0).toNat : Int) := by
  by_cases h : i < s.data.toList.length
  · rw [← dl_get h, List.getD_eq_getElem?_getD, List.getElem?_eq_getElem h]; rfl
  · unfold bt
    rw [dif_neg (by rw [size_dl] at h; omega), List.getD_eq_getElem?_getD, List.getElem?_eq_none (by omega)]
    rfl
theorem ba_ext {a b : ByteArray} (h : a.size = b.size) (hb : ∀ i : Nat, i < a.size → bt a i = bt b i) : a = b := by
  refine bext (List.ext_getElem (by rw [size_dl, size_dl, h]) fun i h1 h2 => ?_)
  have := hb i (by rw [size_dl] at h1; exact h1)
  rw [← dl_get h1, ← dl_get h2] at this
  exact UInt8.toNat_inj.mp (by omega)
theorem ofNat_toNat {a : Nat} (h : a < 256) : (UInt8.ofNat a).toNat = a := by rw [UInt8.toNat_ofNat']; exact Nat.mod_eq_of_lt h
theorem ext1 {s : ByteArray} {q : Int} {a : Nat} (h0 : 0 ≤ q) (h1 : q + 1 ≤ s.size) (ha : a < 256) : (⟨#[UInt8.ofNat a]⟩ : ByteArray).toList = (s.extract q.toNat (q + 1).toNat).toList ↔ bt s q = a := by
  have hz : (s.extract q.toNat (q + 1).toNat).size = 1 := by rw [size_ext _ _ _ (by omega)]; omega
  have e0 : bt (s.extract q.toNat (q + 1).toNat) ((0 : Nat) : Int) = bt s q := by rw [bt_ext (by omega) (by omega) (by omega)]; congr 1; omega
  have f0 : bt (⟨#[UInt8.ofNat a]⟩ : ByteArray) ((0 : Nat) : Int) = a := by rw [bt_lst]; show ((UInt8.ofNat a).toNat : Int) = a; rw [ofNat_toNat ha]
  rw [tl_inj]
  constructor
  · intro h; rw [← e0, ← h, f0]
  · intro h
    refine ba_ext (by rw [hz]; rfl) fun i hi => ?_
    have : i = 0 := by have : i < 1 := hi; omega
    subst this
    rw [e0, f0, h]
theorem ext2 {s : ByteArray} {q : Int} {a b : Nat} (h0 : 0 ≤ q) (h1 : q + 2 ≤ s.size) (ha : a < 256) (hb : b < 256) : (⟨#[UInt8.ofNat a, UInt8.ofNat b]⟩ : ByteArray).toList = (s.extract q.toNat (q + 2).toNat).toList ↔ (bt s q = a ∧ bt s (q + 1) = b) := by
  have hz : (s.extract q.toNat (q + 2).toNat).size = 2 := by rw [size_ext _ _ _ (by omega)]; omega
  have e0 : bt (s.extract q.toNat (q + 2).toNat) ((0 : Nat) : Int) = bt s q := by rw [bt_ext (by omega) (by omega) (by omega)]; congr 1; omega
  have e1 : bt (s.extract q.toNat (q + 2).toNat) ((1 : Nat) : Int) = bt s (q + 1) := by rw [bt_ext (by omega) (by omega) (by omega)]; congr 1; omega
  have f0 : bt (⟨#[UInt8.ofNat a, UInt8.ofNat b]⟩ : ByteArray) ((0 : Nat) : Int) = a := by rw [bt_lst]; show ((UInt8.ofNat a).toNat : Int) = a; rw [ofNat_toNat ha]
  have f1 : bt (⟨#[UInt8.ofNat a, UInt8.ofNat b]⟩ : ByteArray) ((1 : Nat) : Int) = b := by rw [bt_lst]; show ((UInt8.ofNat b).toNat : Int) = b; rw [ofNat_toNat hb]
  rw [tl_inj]
  constructor
  · intro h; exact ⟨by rw [← e0, ← h, f0], by rw [← e1, ← h, f1]⟩
  · intro ⟨h, h'⟩
    refine ba_ext (by rw [hz]; rfl) fun i hi => ?_
    have : i = 0 ∨ i = 1 := by have : i < 2 := hi; omega
    rcases this with c | c <;> subst c
    · rw [e0, f0, h]
    · rw [e1, f1, h']
theorem ext3 {s : ByteArray} {q : Int} {a b c : Nat} (h0 : 0 ≤ q) (h1 : q + 3 ≤ s.size) (ha : a < 256) (hb : b < 256) (hc : c < 256) : (⟨#[UInt8.ofNat a, UInt8.ofNat b, UInt8.ofNat c]⟩ : ByteArray).toList = (s.extract q.toNat (q + 3).toNat).toList ↔ (bt s q = a ∧ bt s (q + 1) = b ∧ bt s (q + 2) = c) := by
  have hz : (s.extract q.toNat (q + 3).toNat).size = 3 := by rw [size_ext _ _ _ (by omega)]; omega
  have e0 : bt (s.extract q.toNat (q + 3).toNat) ((0 : Nat) : Int) = bt s q := by rw [bt_ext (by omega) (by omega) (by omega)]; congr 1; omega
  have e1 : bt (s.extract q.toNat (q + 3).toNat) ((1 : Nat) : Int) = bt s (q + 1) := by rw [bt_ext (by omega) (by omega) (by omega)]; congr 1; omega
  have e2 : bt (s.extract q.toNat (q + 3).toNat) ((2 : Nat) : Int) = bt s (q + 2) := by rw [bt_ext (by omega) (by omega) (by omega)]; congr 1; omega
  have f0 : bt (⟨#[UInt8.ofNat a, UInt8.ofNat b, UInt8.ofNat c]⟩ : ByteArray) ((0 : Nat) : Int) = a := by rw [bt_lst]; show ((UInt8.ofNat a).toNat : Int) = a; rw [ofNat_toNat ha]
  have f1 : bt (⟨#[UInt8.ofNat a, UInt8.ofNat b, UInt8.ofNat c]⟩ : ByteArray) ((1 : Nat) : Int) = b := by rw [bt_lst]; show ((UInt8.ofNat b).toNat : Int) = b; rw [ofNat_toNat hb]
  have f2 : bt (⟨#[UInt8.ofNat a, UInt8.ofNat b, UInt8.ofNat c]⟩ : ByteArray) ((2 : Nat) : Int) = c := by rw [bt_lst]; show ((UInt8.ofNat c).toNat : Int) = c; rw [ofNat_toNat hc]
  rw [tl_inj]
  constructor
  · intro h; exact ⟨by rw [← e0, ← h, f0], by rw [← e1, ← h, f1], by rw [← e2, ← h, f2]⟩
  · intro ⟨h, h', h''⟩
    refine ba_ext (by rw [hz]; rfl) fun i hi => ?_
    have : i = 0 ∨ i = 1 ∨ i = 2 := by have : i < 3 := hi; omega
    rcases this with c | c | c <;> subst c
    · rw [e0, f0, h]
    · rw [e1, f1, h']
    · rw [e2, f2, h'']
theorem ext4 {s : ByteArray} {q : Int} {a b c d : Nat} (h0 : 0 ≤ q) (h1 : q + 4 ≤ s.size) (ha : a < 256) (hb : b < 256) (hc : c < 256) (hd : d < 256) : (⟨#[UInt8.ofNat a, UInt8.ofNat b, UInt8.ofNat c, UInt8.ofNat d]⟩ : ByteArray).toList = (s.extract q.toNat (q + 4).toNat).toList ↔ (bt s q = a ∧ bt s (q + 1) = b ∧ bt s (q + 2) = c ∧ bt s (q + 3) = d) := by
  have hz : (s.extract q.toNat (q + 4).toNat).size = 4 := by rw [size_ext _ _ _ (by omega)]; omega
  have e0 : bt (s.extract q.toNat (q + 4).toNat) ((0 : Nat) : Int) = bt s q := by rw [bt_ext (by omega) (by omega) (by omega)]; congr 1; omega
  have e1 : bt (s.extract q.toNat (q + 4).toNat) ((1 : Nat) : Int) = bt s (q + 1) := by rw [bt_ext (by omega) (by omega) (by omega)]; congr 1; omega
  have e2 : bt (s.extract q.toNat (q + 4).toNat) ((2 : Nat) : Int) = bt s (q + 2) := by rw [bt_ext (by omega) (by omega) (by omega)]; congr 1; omega
  have e3 : bt (s.extract q.toNat (q + 4).toNat) ((3 : Nat) : Int) = bt s (q + 3) := by rw [bt_ext (by omega) (by omega) (by omega)]; congr 1; omega
  have f0 : bt (⟨#[UInt8.ofNat a, UInt8.ofNat b, UInt8.ofNat c, UInt8.ofNat d]⟩ : ByteArray) ((0 : Nat) : Int) = a := by rw [bt_lst]; show ((UInt8.ofNat a).toNat : Int) = a; rw [ofNat_toNat ha]
  have f1 : bt (⟨#[UInt8.ofNat a, UInt8.ofNat b, UInt8.ofNat c, UInt8.ofNat d]⟩ : ByteArray) ((1 : Nat) : Int) = b := by rw [bt_lst]; show ((UInt8.ofNat b).toNat : Int) = b; rw [ofNat_toNat hb]
  have f2 : bt (⟨#[UInt8.ofNat a, UInt8.ofNat b, UInt8.ofNat c, UInt8.ofNat d]⟩ : ByteArray) ((2 : Nat) : Int) = c := by rw [bt_lst]; show ((UInt8.ofNat c).toNat : Int) = c; rw [ofNat_toNat hc]
  have f3 : bt (⟨#[UInt8.ofNat a, UInt8.ofNat b, UInt8.ofNat c, UInt8.ofNat d]⟩ : ByteArray) ((3 : Nat) : Int) = d := by rw [bt_lst]; show ((UInt8.ofNat d).toNat : Int) = d; rw [ofNat_toNat hd]
  rw [tl_inj]
  constructor
  · intro h; exact ⟨by rw [← e0, ← h, f0], by rw [← e1, ← h, f1], by rw [← e2, ← h, f2], by rw [← e3, ← h, f3]⟩
  · intro ⟨h, h', h'', h3⟩
    refine ba_ext (by rw [hz]; rfl) fun i hi => ?_
    have : i = 0 ∨ i = 1 ∨ i = 2 ∨ i = 3 := by have : i < 4 := hi; omega
    rcases this with c | c | c | c <;> subst c
    · rw [e0, f0, h]
    · rw [e1, f1, h']
    · rw [e2, f2, h'']
    · rw [e3, f3, h3]
theorem runeM_no {r : Int} (h : ¬ okRune r) : runeM r = ⟨#[]⟩ := by unfold runeM; rw [if_neg h]
theorem runeM_1 {r : Int} (h : okRune r) (h1 : r < 128) : runeM r = ⟨#[UInt8.ofNat r.toNat]⟩ := by unfold runeM; rw [if_pos h, enc_eq h, if_pos (by omega)]
theorem runeM_2 {r : Int} (h : okRune r) (h1 : 128 ≤ r) (h2 : r < 2048) : runeM r = ⟨#[UInt8.ofNat (0xC0 + r.toNat / 64), UInt8.ofNat (0x80 + r.toNat % 64)]⟩ := by unfold runeM; rw [if_pos h, enc_eq h, if_neg (by omega), if_pos (by omega)]
theorem runeM_3 {r : Int} (h : okRune r) (h1 : 2048 ≤ r) (h2 : r < 65536) : runeM r = ⟨#[UInt8.ofNat (0xE0 + r.toNat / 4096), UInt8.ofNat (0x80 + r.toNat / 64 % 64), UInt8.ofNat (0x80 + r.toNat % 64)]⟩ := by unfold runeM; rw [if_pos h, enc_eq h, if_neg (by omega), if_neg (by omega), if_pos (by omega)]
theorem runeM_4 {r : Int} (h : okRune r) (h1 : 65536 ≤ r) : runeM r = ⟨#[UInt8.ofNat (0xF0 + r.toNat / 262144), UInt8.ofNat (0x80 + r.toNat / 4096 % 64), UInt8.ofNat (0x80 + r.toNat / 64 % 64), UInt8.ofNat (0x80 + r.toNat % 64)]⟩ := by unfold runeM; rw [if_pos h, enc_eq h, if_neg (by omega), if_neg (by omega), if_neg (by omega)]
theorem runeM_sizes (r : Int) : (runeM r).size = if ¬ okRune r then 0 else if r < 128 then 1 else if r < 2048 then 2 else if r < 65536 then 3 else 4 := by
  by_cases h : okRune r
  · rw [if_neg (fun c => c h)]
    by_cases h1 : r < 128
    · rw [if_pos h1, runeM_1 h h1]; rfl
    · rw [if_neg h1]
      by_cases h2 : r < 2048
      · rw [if_pos h2, runeM_2 h (by omega) h2]; rfl
      · rw [if_neg h2]
        by_cases h3 : r < 65536
        · rw [if_pos h3, runeM_3 h (by omega) h3]; rfl
        · rw [if_neg h3, runeM_4 h (by omega)]; rfl
  · rw [if_pos h, runeM_no h]; rfl
theorem size_is (r : Int) (k : Nat) (hk : 1 ≤ k) : (runeM r).size = k ↔ (okRune r ∧ ((k = 1 ∧ r < 128) ∨ (k = 2 ∧ 128 ≤ r ∧ r < 2048) ∨ (k = 3 ∧ 2048 ≤ r ∧ r < 65536) ∨ (k = 4 ∧ 65536 ≤ r))) := by
  rw [runeM_sizes]
  by_cases h : okRune r
  · rw [if_neg (fun c => c h)]
    constructor
    · intro e
      refine ⟨h, ?_⟩
      split at e
      · omega
      · split at e
        · omega
        · split at e <;> omega
    · intro ⟨_, e⟩
      split
      · omega
      · split
        · omega
        · split <;> omega
  · rw [if_pos h]
    constructor
    · intro e; omega
    · intro e; exact absurd e.1 h

/-- The rune that four bytes begin with, and its size; none of a text that has none. -/
def runeN (n b0 b1 b2 b3 : Nat) : Nat × Nat := if n = 0 then (0, 0) else if Lib.decodeN n b0 b1 b2 b3 = (65533, 1) then (0, 0) else Lib.decodeN n b0 b1 b2 b3
def runeAtN (s : ByteArray) (q : Nat) : Nat × Nat := runeN (s.size - q) (s.data.toList.getD q 0).toNat (s.data.toList.getD (q + 1) 0).toNat (s.data.toList.getD (q + 2) 0).toNat (s.data.toList.getD (q + 3) 0).toNat
def runeAtM (s : ByteArray) (p : Int) : Int × Int := (((runeAtN s (spotM s p).toNat).1 : Int), ((runeAtN s (spotM s p).toNat).2 : Int))
theorem decode_ext (s : ByteArray) (q : Nat) : Utf8.decode (s.extract q s.size) 0 = Utf8.decode s q := by
  rw [Lib.decode_N, Lib.decode_N]
  have e : (s.extract q s.size).data.toList = s.data.toList.drop q := by
    rw [ByteArray.data_extract, Array.toList_extract, List.extract_eq_take_drop]
    rw [List.take_of_length_le (by rw [List.length_drop, size_dl]; omega)]
  rw [e, List.length_drop, Lib.getD_dropU, Lib.getD_dropU, Lib.getD_dropU, Lib.getD_dropU]
  simp only [Nat.add_zero, Nat.zero_add, Nat.sub_zero]
/-- The four ways in which the reference finds a rune. -/
def way1 (n b0 : Nat) : Prop := 1 ≤ n ∧ b0 < 128
def way2 (n b0 b1 : Nat) (r : Int) : Prop := 2 ≤ n ∧ 128 ≤ r ∧ r < 2048 ∧ (b0 : Int) = 192 + r / 64 ∧ (b1 : Int) = 128 + r % 64
def way3 (n b0 b1 b2 : Nat) (r : Int) : Prop := 3 ≤ n ∧ 2048 ≤ r ∧ r < 65536 ∧ ¬ (55296 ≤ r ∧ r ≤ 57343) ∧ (b0 : Int) = 224 + r / 4096 ∧ (b1 : Int) = 128 + r / 64 % 64 ∧ (b2 : Int) = 128 + r % 64
def way4 (n b0 b1 b2 b3 : Nat) (r : Int) : Prop := 4 ≤ n ∧ 65536 ≤ r ∧ r ≤ 1114111 ∧ (b0 : Int) = 240 + r / 262144 ∧ (b1 : Int) = 128 + r / 4096 % 64 ∧ (b2 : Int) = 128 + r / 64 % 64 ∧ (b3 : Int) = 128 + r % 64
theorem ways_1 {n b0 b1 b2 b3 : Nat} (h : way1 n b0) : runeN n b0 b1 b2 b3 = (b0, 1) := by
  unfold way1 at h
  have hd : Lib.decodeN n b0 b1 b2 b3 = (b0, 1) := by unfold Lib.decodeN; rw [if_pos (by omega)]
  unfold runeN
  rw [if_neg (by omega), hd, if_neg (by intro e; injection e; omega)]
theorem ways_2 {n b0 b1 b2 b3 : Nat} {r : Int} (hr : r = ((b0 : Int) - 192) * 64 + b1 - 128) (h : way2 n b0 b1 r) : runeN n b0 b1 b2 b3 = (r.toNat, 2) := by
  unfold way2 at h
  have e : b0 % 32 * 64 + b1 % 64 = r.toNat := by omega
  have hd : Lib.decodeN n b0 b1 b2 b3 = (r.toNat, 2) := by unfold Lib.decodeN; rw [if_neg (by omega), if_pos (by omega), e, if_pos (by omega)]
  unfold runeN
  rw [if_neg (by omega), hd, if_neg (by intro e; injection e; omega)]
theorem ways_3 {n b0 b1 b2 b3 : Nat} {r : Int} (hr : r = (((b0 : Int) - 224) * 64 + b1 - 128) * 64 + b2 - 128) (h : way3 n b0 b1 b2 r) : runeN n b0 b1 b2 b3 = (r.toNat, 3) := by
  unfold way3 at h
  have e : b0 % 16 * 4096 + b1 % 64 * 64 + b2 % 64 = r.toNat := by omega
  have hd : Lib.decodeN n b0 b1 b2 b3 = (r.toNat, 3) := by unfold Lib.decodeN; rw [if_neg (by omega), if_neg (by omega), if_pos (by omega), e, if_pos (by omega)]
  unfold runeN
  rw [if_neg (by omega), hd, if_neg (by intro e; injection e; omega)]
theorem ways_4 {n b0 b1 b2 b3 : Nat} {r : Int} (hr : r = ((((b0 : Int) - 240) * 64 + b1 - 128) * 64 + b2 - 128) * 64 + b3 - 128) (h : way4 n b0 b1 b2 b3 r) : runeN n b0 b1 b2 b3 = (r.toNat, 4) := by
  unfold way4 at h
  have e : b0 % 8 * 262144 + b1 % 64 * 4096 + b2 % 64 * 64 + b3 % 64 = r.toNat := by omega
  have hd : Lib.decodeN n b0 b1 b2 b3 = (r.toNat, 4) := by unfold Lib.decodeN; rw [if_neg (by omega), if_neg (by omega), if_neg (by omega), if_pos (by omega), e, if_pos (by omega)]
  unfold runeN
  rw [if_neg (by omega), hd, if_neg (by intro e; injection e; omega)]
theorem no_3 {n b0 b1 b2 : Nat} (n3 : ¬ way3 n b0 b1 b2 ((((b0 : Int) - 224) * 64 + b1 - 128) * 64 + b2 - 128)) (c3 : b0 / 16 = 14 ∧ (1 < n ∧ b1 / 64 = 2) ∧ (2 < n ∧ b2 / 64 = 2)) :
    ¬ (b0 % 16 * 4096 + b1 % 64 * 64 + b2 % 64 ≥ 2048 ∧ (b0 % 16 * 4096 + b1 % 64 * 64 + b2 % 64 < 55296 ∨ (57344 ≤ b0 % 16 * 4096 + b1 % 64 * 64 + b2 % 64 ∧ b0 % 16 * 4096 + b1 % 64 * 64 + b2 % 64 ≤ 1114111))) := by
  obtain ⟨x, hx, rfl⟩ : ∃ x, x < 16 ∧ b0 = 224 + x := ⟨b0 - 224, by omega, by omega⟩
  obtain ⟨y, hy, rfl⟩ : ∃ y, y < 64 ∧ b1 = 128 + y := ⟨b1 - 128, by omega, by omega⟩
  obtain ⟨z, hz, rfl⟩ : ∃ z, z < 64 ∧ b2 = 128 + z := ⟨b2 - 128, by omega, by omega⟩
  rw [show (224 + x) % 16 = x by omega, show (128 + y) % 64 = y by omega, show (128 + z) % 64 = z by omega]
  rw [show ((((224 + x : Nat) : Int) - 224) * 64 + ((128 + y : Nat) : Int) - 128) * 64 + ((128 + z : Nat) : Int) - 128 = ((x * 4096 + y * 64 + z : Nat) : Int) by omega] at n3
  intro hc
  unfold way3 at n3
  omega
theorem no_4 {n b0 b1 b2 b3 : Nat} (n4 : ¬ way4 n b0 b1 b2 b3 (((((b0 : Int) - 240) * 64 + b1 - 128) * 64 + b2 - 128) * 64 + b3 - 128)) (c4 : b0 / 8 = 30 ∧ (1 < n ∧ b1 / 64 = 2) ∧ (2 < n ∧ b2 / 64 = 2) ∧ (3 < n ∧ b3 / 64 = 2)) :
    ¬ (b0 % 8 * 262144 + b1 % 64 * 4096 + b2 % 64 * 64 + b3 % 64 ≥ 65536 ∧ (b0 % 8 * 262144 + b1 % 64 * 4096 + b2 % 64 * 64 + b3 % 64 < 55296 ∨ (57344 ≤ b0 % 8 * 262144 + b1 % 64 * 4096 + b2 % 64 * 64 + b3 % 64 ∧ b0 % 8 * 262144 + b1 % 64 * 4096 + b2 % 64 * 64 + b3 % 64 ≤ 1114111))) := by
  obtain ⟨x, hx, rfl⟩ : ∃ x, x < 8 ∧ b0 = 240 + x := ⟨b0 - 240, by omega, by omega⟩
  obtain ⟨y, hy, rfl⟩ : ∃ y, y < 64 ∧ b1 = 128 + y := ⟨b1 - 128, by omega, by omega⟩
  obtain ⟨z, hz, rfl⟩ : ∃ z, z < 64 ∧ b2 = 128 + z := ⟨b2 - 128, by omega, by omega⟩
  obtain ⟨u, hu, rfl⟩ : ∃ u, u < 64 ∧ b3 = 128 + u := ⟨b3 - 128, by omega, by omega⟩
  rw [show (240 + x) % 8 = x by omega, show (128 + y) % 64 = y by omega, show (128 + z) % 64 = z by omega, show (128 + u) % 64 = u by omega]
  rw [show (((((240 + x : Nat) : Int) - 240) * 64 + ((128 + y : Nat) : Int) - 128) * 64 + ((128 + z : Nat) : Int) - 128) * 64 + ((128 + u : Nat) : Int) - 128 = ((x * 262144 + y * 4096 + z * 64 + u : Nat) : Int) by omega] at n4
  intro hc
  unfold way4 at n4
  have a0 : ((x * 262144 + y * 4096 + z * 64 + u : Nat) : Int) / 262144 = x := by omega
  have a1 : ((x * 262144 + y * 4096 + z * 64 + u : Nat) : Int) / 4096 % 64 = y := by omega
  have a2 : ((x * 262144 + y * 4096 + z * 64 + u : Nat) : Int) / 64 % 64 = z := by omega
  have a3 : ((x * 262144 + y * 4096 + z * 64 + u : Nat) : Int) % 64 = u := by omega
  rw [a0, a1, a2, a3] at n4
  exact n4 ⟨by omega, by omega, by omega, by omega, by omega, by omega, by omega⟩
theorem ways_no {n b0 b1 b2 b3 : Nat} (n1 : ¬ way1 n b0) (n2 : ¬ way2 n b0 b1 (((b0 : Int) - 192) * 64 + b1 - 128)) (n3 : ¬ way3 n b0 b1 b2 ((((b0 : Int) - 224) * 64 + b1 - 128) * 64 + b2 - 128))
    (n4 : ¬ way4 n b0 b1 b2 b3 (((((b0 : Int) - 240) * 64 + b1 - 128) * 64 + b2 - 128) * 64 + b3 - 128)) : runeN n b0 b1 b2 b3 = (0, 0) := by
  unfold runeN
  by_cases c : n = 0
  · rw [if_pos c]
  · rw [if_neg c, if_pos ?_]
    unfold Lib.decodeN
    rw [if_neg (by unfold way1 at n1; omega)]
    by_cases c2 : b0 / 32 = 6 ∧ (1 < n ∧ b1 / 64 = 2)
    · rw [if_pos c2, if_neg (by clear n1 n3 n4; unfold way2 at n2; omega)]
    · rw [if_neg c2]
      by_cases c3 : b0 / 16 = 14 ∧ (1 < n ∧ b1 / 64 = 2) ∧ (2 < n ∧ b2 / 64 = 2)
      · rw [if_pos c3, if_neg (no_3 n3 c3)]
      · rw [if_neg c3]
        by_cases c4 : b0 / 8 = 30 ∧ (1 < n ∧ b1 / 64 = 2) ∧ (2 < n ∧ b2 / 64 = 2) ∧ (3 < n ∧ b3 / 64 = 2)
        · rw [if_pos c4, if_neg (no_4 n4 c4)]
        · rw [if_neg c4]

/-! ### a clean text -/
theorem runeN_le (n b0 b1 b2 b3 : Nat) : (runeN n b0 b1 b2 b3).2 ≤ n := by
  unfold runeN
  by_cases c : n = 0
  · rw [if_pos c]; exact Nat.zero_le _
  · rw [if_neg c]
    split
    · exact Nat.zero_le _
    · unfold Lib.decodeN
      repeat' split
      all_goals (dsimp only; omega)
theorem runeAtM_le (s : ByteArray) (p : Int) (h0 : 0 ≤ p) (h1 : p ≤ s.size) : 0 ≤ (runeAtM s p).2 ∧ p + (runeAtM s p).2 ≤ s.size := by
  unfold runeAtM
  have := runeN_le (s.size - (spotM s p).toNat) (s.data.toList.getD (spotM s p).toNat 0).toNat (s.data.toList.getD ((spotM s p).toNat + 1) 0).toNat (s.data.toList.getD ((spotM s p).toNat + 2) 0).toNat (s.data.toList.getD ((spotM s p).toNat + 3) 0).toNat
  rw [spotM_in h0 h1] at this ⊢
  unfold runeAtN
  dsimp only
  omega
def mayB (r : Int) : Bool := decide (r = 9 ∨ r = 10 ∨ (32 ≤ r ∧ r ≤ 126) ∨ (r > 159 ∧ ¬ r = 65279 ∧ ¬ r = 65534 ∧ ¬ r = 65535))
theorem mayB_iff {r : Int} : mayB r = true ↔ (r = 9 ∨ r = 10 ∨ (32 ≤ r ∧ r ≤ 126) ∨ (r > 159 ∧ ¬ r = 65279 ∧ ¬ r = 65534 ∧ ¬ r = 65535)) := by simp [mayB]
theorem mayB_not {r : Int} : mayB r = false ↔ ¬ (r = 9 ∨ r = 10 ∨ (32 ≤ r ∧ r ≤ 126) ∨ (r > 159 ∧ ¬ r = 65279 ∧ ¬ r = 65534 ∧ ¬ r = 65535)) := by simp only [mayB, decide_eq_false_iff_not]
def cleanN (s : ByteArray) : Nat → Int → Int
  | 0, p => p
  | d + 1, p => if p < (s.size : Int) then (if (runeAtM s p).2 = 0 then p else if mayB (runeAtM s p).1 = true then cleanN s d (p + (runeAtM s p).2) else p) else p
def cleanM (s : ByteArray) : Int := cleanN s s.size 0
theorem cleanN_le (s : ByteArray) (d : Nat) : ∀ p : Int, 0 ≤ p → p ≤ s.size → p ≤ cleanN s d p ∧ cleanN s d p ≤ s.size := by
  induction d with
  | zero => intro p h0 h1; exact ⟨Int.le_refl _, h1⟩
  | succ d ih =>
    intro p h0 h1
    have h := runeAtM_le s p h0 h1
    unfold cleanN
    split
    · split
      · omega
      · split
        · have := ih (p + (runeAtM s p).2) (by omega) (by omega)
          omega
        · omega
    · omega
theorem cleanM_le (s : ByteArray) : 0 ≤ cleanM s ∧ cleanM s ≤ s.size := by
  have := cleanN_le s s.size 0 (by omega) (by omega)
  unfold cleanM
  omega
end Go.Proofs.YtjbhflicehnocaaDoor.Mine
