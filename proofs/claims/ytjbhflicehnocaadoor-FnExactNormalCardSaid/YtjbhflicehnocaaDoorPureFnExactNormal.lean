/- For every stream of at most 2^20 bytes the program's Normal answers as the reference's does and leaves the stream alone, in every world that holds the tables of unicode/utf8. -/
import Derived.Test.YtjbhflicehnocaaDoorPFnExactNormalx0
import Derived.Test.YtjbhflicehnocaaDoorPFnExactNormalx1
import Derived.Test.YtjbhflicehnocaaDoorPFnExactNormalx2
import Derived.Test.YtjbhflicehnocaaDoorPFnExactNormalx3
import Derived.Test.YtjbhflicehnocaaDoorPFnExactNormalx4
import Derived.Test.YtjbhflicehnocaaDoorPFnExactNormalx5
import Derived.Test.YtjbhflicehnocaaDoorLst
import Derived.Test.YtjbhflicehnocaaDoorMine
import Derived.Test.YtjbhflicehnocaaDoorNrm
import Derived.Test.YtjbhflicehnocaaDoorRune
import Derived.Test.YtjbhflicehnocaaDoorTxt
import Derived.Test.YtjbhflicehnocaaDoorUtf
namespace Go.Proofs.YtjbhflicehnocaaDoor.Pure
open Go.RowKit Go.Proofs.YtjbhflicehnocaaDoor.PFnExactNormal Go.Proofs.YtjbhflicehnocaaDoorW.PrintWords Go.Proofs.YtjbhflicehnocaaDoorW.PrintLast Go.Proofs.YtjbhflicehnocaaDoorW.PrintMore Go.Proofs.YtjbhflicehnocaaDoor.Mine

theorem spec_l01P_ok (s : ByteArray) (p : Int) : spec_l01P.f s p = some (spotM s p) := by
  unfold spec_l01P.f spotM
  split
  · rfl
  · split <;> rfl

theorem spec_RuneBytes_ok (r : Int) (k : Nat) (hk : 1 ≤ k) : spec_RuneBytes.f k r = some (runeM r) := by
  obtain ⟨k, rfl⟩ : ∃ m, k = m + 1 := ⟨k - 1, by omega⟩
  unfold spec_RuneBytes.f runeM
  by_cases h : okRune r
  · rw [if_pos h]
    have h' := h
    obtain ⟨a, b, c⟩ := h'
    rw [if_neg (by omega), if_neg (by omega)]
    have e : (if r ≥ 55296 then spec_RuneBytes.j0 (k + 1) r (decide (r ≤ 57343)) else spec_RuneBytes.j0 (k + 1) r false) = spec_RuneBytes.j0 (k + 1) r false := by
      by_cases h5 : r ≥ 55296
      · rw [if_pos h5, show decide (r ≤ 57343) = false by simp; omega]
      · rw [if_neg h5]
    rw [e, enc_eq h]
    simp only [spec_RuneBytes.j0, Bool.false_eq_true, if_false]
    by_cases h1 : r < 128
    · rw [if_pos h1, if_pos (show r.toNat < 0x80 by omega), son1, show (r % 256).toNat = r.toNat by omega]
    · rw [if_neg h1, if_neg (show ¬ r.toNat < 0x80 by omega)]
      by_cases h2 : r < 2048
      · rw [if_pos h2, if_pos (show r.toNat < 0x800 by omega), son2, Int.tdiv_eq_ediv_of_nonneg a, Int.tmod_eq_emod_of_nonneg a, w64 (n := r / 64) (by omega) (by omega), w64 (by omega) (by omega), w64 (by omega) (by omega),
          show ((192 + r / 64) % 256).toNat = 0xC0 + r.toNat / 64 by omega, show ((128 + r % 64) % 256).toNat = 0x80 + r.toNat % 64 by omega]
      · rw [if_neg h2, if_neg (show ¬ r.toNat < 0x800 by omega)]
        by_cases h3 : r < 65536
        · rw [if_pos h3, if_pos (show r.toNat < 0x10000 by omega), son3, Int.tdiv_eq_ediv_of_nonneg a, Int.tdiv_eq_ediv_of_nonneg a, Int.tmod_eq_emod_of_nonneg a, w64 (n := r / 64) (by omega) (by omega), w64 (n := r / 4096) (by omega) (by omega),
            Int.tmod_eq_emod_of_nonneg (a := r / 64) (by omega), w64 (by omega) (by omega), w64 (by omega) (by omega), w64 (by omega) (by omega),
            show ((224 + r / 4096) % 256).toNat = 0xE0 + r.toNat / 4096 by omega, show ((128 + r / 64 % 64) % 256).toNat = 0x80 + r.toNat / 64 % 64 by omega, show ((128 + r % 64) % 256).toNat = 0x80 + r.toNat % 64 by omega]
        · rw [if_neg h3, if_neg (show ¬ r.toNat < 0x10000 by omega), son4, Int.tdiv_eq_ediv_of_nonneg a, Int.tdiv_eq_ediv_of_nonneg a, Int.tdiv_eq_ediv_of_nonneg a, Int.tmod_eq_emod_of_nonneg a, w64 (n := r / 64) (by omega) (by omega), w64 (n := r / 4096) (by omega) (by omega), w64 (n := r / 262144) (by omega) (by omega),
            Int.tmod_eq_emod_of_nonneg (a := r / 64) (by omega), Int.tmod_eq_emod_of_nonneg (a := r / 4096) (by omega), w64 (by omega) (by omega), w64 (by omega) (by omega), w64 (by omega) (by omega), w64 (by omega) (by omega),
            show ((240 + r / 262144) % 256).toNat = 0xF0 + r.toNat / 262144 by omega, show ((128 + r / 4096 % 64) % 256).toNat = 0x80 + r.toNat / 4096 % 64 by omega, show ((128 + r / 64 % 64) % 256).toNat = 0x80 + r.toNat / 64 % 64 by omega, show ((128 + r % 64) % 256).toNat = 0x80 + r.toNat % 64 by omega]
  · rw [if_neg h]
    have hc : r < 0 ∨ r > 1114111 ∨ (55296 ≤ r ∧ r ≤ 57343) := by unfold okRune at h; omega
    have hj : spec_RuneBytes.j0 (k + 1) r true = some (⟨#[]⟩ : ByteArray) := by simp only [spec_RuneBytes.j0, if_true]
    by_cases h1 : r < 0
    · rw [if_pos h1, hj]
    · rw [if_neg h1]
      by_cases h2 : r > 1114111
      · rw [if_pos h2, hj]
      · rw [if_neg h2, if_pos (by omega), show decide (r ≤ 57343) = true by simp; omega, hj]

theorem spec_RuneAt_L0 (s : ByteArray) (q m : Int) (c : Int) (hs : s.size ≤ 140737488351232) (h0 : 0 ≤ q) (h1 : q ≤ s.size) (hm : 1 ≤ m) (hm4 : m ≤ 4) (hc : rd [0, 0, 192, 224, 240] m = c) (hc0 : 0 ≤ c) (hc1 : c ≤ 240) (k : Nat) :
    spec_RuneAt.l0 (k + 2) s q m = if m ≤ (s.size : Int) - q then spec_RuneAt.l1 k s q m (bt s q - c) 1 else some (0, 0) := by
  have b0 := bt_lo s q
  have b1 := bt_hi s q
  rw [spec_RuneAt.l0, if_pos hm4, w64 (by omega) (by omega), spec_RuneAt.j1]
  by_cases h : m ≤ (s.size : Int) - q
  · rw [if_pos h, if_pos (decide_eq_true h), if_pos h0, if_pos (by omega), Option.bind_some, if_pos (by omega), if_pos (show m < (([0, 0, 192, 224, 240] : List Int).length : Int) from by show m < 5; omega), hc, w64 (n := bt s q) (by omega) (by omega), w64 (by omega) (by omega)]
  · rw [if_neg h, if_neg (by rw [decide_eq_false h]; decide)]
theorem spec_RuneAt_L1 (s : ByteArray) (q m r i : Int) (hs : s.size ≤ 140737488351232) (h0 : 0 ≤ q) (hm : q + m ≤ s.size) (hm4 : m ≤ 4) (hi : 0 ≤ i) (him : i < m) (hr : -1099511627776 ≤ r) (hr1 : r ≤ 1099511627776) (k : Nat) :
    spec_RuneAt.l1 (k + 1) s q m r i = spec_RuneAt.l1 k s q m (r * 64 + bt s (q + i) - 128) (i + 1) := by
  have b0 := bt_lo s (q + i)
  have b1 := bt_hi s (q + i)
  rw [spec_RuneAt.l1, if_pos him, w64 (n := q + i) (by omega) (by omega), if_pos (by omega), if_pos (by omega), w64 (n := r * 64) (by omega) (by omega), w64 (n := bt s (q + i)) (by omega) (by omega), w64 (n := r * 64 + bt s (q + i)) (by omega) (by omega), w64 (n := r * 64 + bt s (q + i) - 128) (by omega) (by omega), w64 (n := i + 1) (by omega) (by omega)]
theorem spec_RuneAt_L2 (s : ByteArray) (q m r : Int) (hs : s.size ≤ 140737488351232) (h0 : 0 ≤ q) (hm1 : 1 ≤ m) (hm : q + m ≤ s.size) (hm4 : m ≤ 4) (k : Nat) :
    spec_RuneAt.l1 (k + 2) s q m r m = if ((runeM r).size : Int) = m ∧ (runeM r).toList = (s.extract q.toNat (q + m).toNat).toList then some (r, m) else spec_RuneAt.l0 (k + 1) s q (m + 1) := by
  rw [spec_RuneAt.l1, if_neg (by omega), spec_RuneBytes_ok r (k + 1) (by omega), Option.bind_some, w64 (n := q + m) (by omega) (by omega), w64 (n := m + 1) (by omega) (by omega)]
  by_cases c : ((runeM r).size : Int) = m
  · rw [if_pos c, if_pos h0, if_pos (by omega), if_pos hm]
    by_cases c2 : (runeM r).toList = (s.extract q.toNat (q + m).toNat).toList
    · rw [if_pos c2, if_pos ⟨c, c2⟩]
    · rw [if_neg c2, if_neg (fun h => c2 h.2)]
  · rw [if_neg c, if_neg (fun h => c h.1)]
theorem spec_RuneAt_h1 (s : ByteArray) (q : Int) (n : Nat) (h0 : 0 ≤ q) (hm : q + 1 ≤ s.size) (hn : (n : Int) = s.size - q) (b0 : Nat) (e0 : bt s q = b0) (hb : b0 < 256) :
    (((runeM (b0 : Int)).size : Int) = 1 ∧ (runeM (b0 : Int)).toList = (s.extract q.toNat (q + 1).toNat).toList) ↔ way1 n b0 := by
  unfold way1
  constructor
  · intro ⟨a, _⟩
    have := (size_is (b0 : Int) 1 (by omega)).mp (by omega)
    omega
  · intro ⟨_, h⟩
    have ok : okRune (b0 : Int) := by unfold okRune; omega
    refine ⟨by have := (size_is (b0 : Int) 1 (by omega)).mpr ⟨ok, by omega⟩; omega, ?_⟩
    rw [runeM_1 ok (by omega), ext1 h0 hm (by omega), e0]
    omega
theorem spec_RuneAt_h2 (s : ByteArray) (q : Int) (n : Nat) (h0 : 0 ≤ q) (hm : q + 2 ≤ s.size) (hn : (n : Int) = s.size - q) (b0 b1 : Nat) (e0 : bt s q = b0) (e1 : bt s (q + 1) = b1) (r : Int) :
    (((runeM r).size : Int) = 2 ∧ (runeM r).toList = (s.extract q.toNat (q + 2).toNat).toList) ↔ way2 n b0 b1 r := by
  unfold way2
  constructor
  · intro ⟨a, b⟩
    obtain ⟨ok, c⟩ := (size_is r 2 (by omega)).mp (by omega)
    rw [runeM_2 ok (by omega) (by omega), ext2 h0 hm (by omega) (by omega), e0, e1] at b
    omega
  · intro ⟨_, h1, h2, h3, h4⟩
    have ok : okRune r := by unfold okRune; omega
    refine ⟨by have := (size_is r 2 (by omega)).mpr ⟨ok, by omega⟩; omega, ?_⟩
    rw [runeM_2 ok h1 h2, ext2 h0 hm (by omega) (by omega), e0, e1]
    omega
theorem spec_RuneAt_h3 (s : ByteArray) (q : Int) (n : Nat) (h0 : 0 ≤ q) (hm : q + 3 ≤ s.size) (hn : (n : Int) = s.size - q) (b0 b1 b2 : Nat) (e0 : bt s q = b0) (e1 : bt s (q + 1) = b1) (e2 : bt s (q + 2) = b2) (r : Int) :
    (((runeM r).size : Int) = 3 ∧ (runeM r).toList = (s.extract q.toNat (q + 3).toNat).toList) ↔ way3 n b0 b1 b2 r := by
  unfold way3
  constructor
  · intro ⟨a, b⟩
    obtain ⟨ok, c⟩ := (size_is r 3 (by omega)).mp (by omega)
    rw [runeM_3 ok (by omega) (by omega), ext3 h0 hm (by omega) (by omega) (by omega), e0, e1, e2] at b
    unfold okRune at ok
    omega
  · intro ⟨_, h1, h2, h3, h4, h5, h6⟩
    have ok : okRune r := by unfold okRune; omega
    refine ⟨by have := (size_is r 3 (by omega)).mpr ⟨ok, by omega⟩; omega, ?_⟩
    rw [runeM_3 ok h1 h2, ext3 h0 hm (by omega) (by omega) (by omega), e0, e1, e2]
    omega
theorem spec_RuneAt_h4 (s : ByteArray) (q : Int) (n : Nat) (h0 : 0 ≤ q) (hm : q + 4 ≤ s.size) (hn : (n : Int) = s.size - q) (b0 b1 b2 b3 : Nat) (e0 : bt s q = b0) (e1 : bt s (q + 1) = b1) (e2 : bt s (q + 2) = b2) (e3 : bt s (q + 3) = b3) (r : Int) :
    (((runeM r).size : Int) = 4 ∧ (runeM r).toList = (s.extract q.toNat (q + 4).toNat).toList) ↔ way4 n b0 b1 b2 b3 r := by
  unfold way4
  constructor
  · intro ⟨a, b⟩
    obtain ⟨ok, c⟩ := (size_is r 4 (by omega)).mp (by omega)
    have hr : 65536 ≤ r := by omega
    unfold okRune at ok
    rw [runeM_4 ok hr, ext4 h0 hm (by omega) (by omega) (by omega) (by omega), e0, e1, e2, e3] at b
    omega
  · intro ⟨_, h1, h2, h4, h5, h6, h7⟩
    have ok : okRune r := by unfold okRune; omega
    refine ⟨by have := (size_is r 4 (by omega)).mpr ⟨ok, by omega⟩; omega, ?_⟩
    rw [runeM_4 ok h1, ext4 h0 hm (by omega) (by omega) (by omega) (by omega), e0, e1, e2, e3]
    omega
theorem spec_RuneAt_ok (s : ByteArray) (p : Int) (hs : s.size ≤ 140737488351232) (k : Nat) (hk : 40 ≤ k) : spec_RuneAt.f k s p = some (runeAtM s p) := by
  obtain ⟨k, rfl⟩ : ∃ m, k = m + 30 := ⟨k - 30, by omega⟩
  have h0 := spotM_lo s p
  have h1 := spotM_hi s p
  unfold spec_RuneAt.f runeAtM runeAtN
  rw [spec_l01P_ok, Option.bind_some]
  generalize spotM s p = q at h0 h1 ⊢
  obtain ⟨Q, rfl⟩ := Int.eq_ofNat_of_zero_le h0
  rw [show ((Q : Nat) : Int).toNat = Q by omega]
  have e0 : bt s (Q : Int) = ((s.data.toList.getD Q 0).toNat : Int) := bt_lst s Q
  have e1 : bt s ((Q : Int) + 1) = ((s.data.toList.getD (Q + 1) 0).toNat : Int) := bt_lst s (Q + 1)
  have e2 : bt s ((Q : Int) + 2) = ((s.data.toList.getD (Q + 2) 0).toNat : Int) := bt_lst s (Q + 2)
  have e3 : bt s ((Q : Int) + 3) = ((s.data.toList.getD (Q + 3) 0).toNat : Int) := bt_lst s (Q + 3)
  have l0 := UInt8.toNat_lt (s.data.toList.getD Q 0)
  have l1 := UInt8.toNat_lt (s.data.toList.getD (Q + 1) 0)
  have l2 := UInt8.toNat_lt (s.data.toList.getD (Q + 2) 0)
  have l3 := UInt8.toNat_lt (s.data.toList.getD (Q + 3) 0)
  generalize (s.data.toList.getD Q 0).toNat = b0 at e0 l0 ⊢
  generalize (s.data.toList.getD (Q + 1) 0).toNat = b1 at e1 l1 ⊢
  generalize (s.data.toList.getD (Q + 2) 0).toNat = b2 at e2 l2 ⊢
  generalize (s.data.toList.getD (Q + 3) 0).toNat = b3 at e3 l3 ⊢
  obtain ⟨n, hn⟩ : ∃ n : Nat, n = s.size - Q := ⟨_, rfl⟩
  have hni : (n : Int) = s.size - Q := by omega
  rw [← hn]
  have fin : spec_RuneAt.l0 (k + 2) s Q 5 = some (0, 0) := by rw [spec_RuneAt.l0, if_neg (by omega), spec_RuneAt.j1, if_neg (by decide)]
  have no : (s.size : Int) - Q < 4 → ¬ way4 n b0 b1 b2 b3 (((((b0 : Int) - 240) * 64 + b1 - 128) * 64 + b2 - 128) * 64 + b3 - 128) := fun h c => by unfold way4 at c; omega
  have no3 : (s.size : Int) - Q < 3 → ¬ way3 n b0 b1 b2 ((((b0 : Int) - 224) * 64 + b1 - 128) * 64 + b2 - 128) := fun h c => by unfold way3 at c; omega
  have no2 : (s.size : Int) - Q < 2 → ¬ way2 n b0 b1 (((b0 : Int) - 192) * 64 + b1 - 128) := fun h c => by unfold way2 at c; omega
  rw [spec_RuneAt_L0 s Q 1 0 hs h0 h1 (by omega) (by omega) rfl (by omega) (by omega) (k + 28)]
  by_cases c1 : (1 : Int) ≤ (s.size : Int) - Q
  · rw [if_pos c1, e0, spec_RuneAt_L2 s Q 1 _ hs h0 (by omega) (by omega) (by omega) (k + 26), show (b0 : Int) - 0 = b0 by omega]
    by_cases w1 : way1 n b0
    · rw [if_pos ((spec_RuneAt_h1 s Q n h0 (by omega) hni b0 e0 l0).mpr w1), ways_1 w1]; rfl
    · rw [if_neg (fun h => w1 ((spec_RuneAt_h1 s Q n h0 (by omega) hni b0 e0 l0).mp h)), show (1 : Int) + 1 = 2 by omega, spec_RuneAt_L0 s Q 2 192 hs h0 h1 (by omega) (by omega) rfl (by omega) (by omega) (k + 25)]
      by_cases c2 : (2 : Int) ≤ (s.size : Int) - Q
      · rw [if_pos c2, spec_RuneAt_L1 s Q 2 _ 1 hs h0 (by omega) (by omega) (by omega) (by omega) (by omega) (by omega) (k + 24), show (1 : Int) + 1 = 2 by omega, spec_RuneAt_L2 s Q 2 _ hs h0 (by omega) (by omega) (by omega) (k + 22), e0, e1]
        have hh := spec_RuneAt_h2 s Q n h0 (by omega) hni b0 b1 e0 e1 (((b0 : Int) - 192) * 64 + b1 - 128)
        by_cases w2 : way2 n b0 b1 (((b0 : Int) - 192) * 64 + b1 - 128)
        · rw [if_pos (hh.mpr w2), ways_2 rfl w2]
          unfold way2 at w2
          show _ = some ((((((b0 : Int) - 192) * 64 + b1 - 128).toNat : Nat) : Int), 2)
          rw [Int.toNat_of_nonneg (by omega)]
        · rw [if_neg (fun h => w2 (hh.mp h)), show (2 : Int) + 1 = 3 by omega, spec_RuneAt_L0 s Q 3 224 hs h0 h1 (by omega) (by omega) rfl (by omega) (by omega) (k + 21)]
          by_cases c3 : (3 : Int) ≤ (s.size : Int) - Q
          · rw [if_pos c3, e0, spec_RuneAt_L1 s Q 3 _ 1 hs h0 (by omega) (by omega) (by omega) (by omega) (by omega) (by omega) (k + 20), e1, show (1 : Int) + 1 = 2 by omega, spec_RuneAt_L1 s Q 3 _ 2 hs h0 (by omega) (by omega) (by omega) (by omega) (by omega) (by omega) (k + 19), show (2 : Int) + 1 = 3 by omega, spec_RuneAt_L2 s Q 3 _ hs h0 (by omega) (by omega) (by omega) (k + 17), e2]
            have hh := spec_RuneAt_h3 s Q n h0 (by omega) hni b0 b1 b2 e0 e1 e2 ((((b0 : Int) - 224) * 64 + b1 - 128) * 64 + b2 - 128)
            by_cases w3 : way3 n b0 b1 b2 ((((b0 : Int) - 224) * 64 + b1 - 128) * 64 + b2 - 128)
            · rw [if_pos (hh.mpr w3), ways_3 rfl w3]
              unfold way3 at w3
              show _ = some (((((((b0 : Int) - 224) * 64 + b1 - 128) * 64 + b2 - 128).toNat : Nat) : Int), 3)
              rw [Int.toNat_of_nonneg (by omega)]
            · rw [if_neg (fun h => w3 (hh.mp h)), show (3 : Int) + 1 = 4 by omega, spec_RuneAt_L0 s Q 4 240 hs h0 h1 (by omega) (by omega) rfl (by omega) (by omega) (k + 16)]
              by_cases c4 : (4 : Int) ≤ (s.size : Int) - Q
              · rw [if_pos c4, e0, spec_RuneAt_L1 s Q 4 _ 1 hs h0 (by omega) (by omega) (by omega) (by omega) (by omega) (by omega) (k + 15), e1, show (1 : Int) + 1 = 2 by omega, spec_RuneAt_L1 s Q 4 _ 2 hs h0 (by omega) (by omega) (by omega) (by omega) (by omega) (by omega) (k + 14), e2, show (2 : Int) + 1 = 3 by omega, spec_RuneAt_L1 s Q 4 _ 3 hs h0 (by omega) (by omega) (by omega) (by omega) (by omega) (by omega) (k + 13), show (3 : Int) + 1 = 4 by omega, spec_RuneAt_L2 s Q 4 _ hs h0 (by omega) (by omega) (by omega) (k + 11), e3]
                have hh := spec_RuneAt_h4 s Q n h0 (by omega) hni b0 b1 b2 b3 e0 e1 e2 e3 (((((b0 : Int) - 240) * 64 + b1 - 128) * 64 + b2 - 128) * 64 + b3 - 128)
                by_cases w4 : way4 n b0 b1 b2 b3 (((((b0 : Int) - 240) * 64 + b1 - 128) * 64 + b2 - 128) * 64 + b3 - 128)
                · rw [if_pos (hh.mpr w4), ways_4 rfl w4]
                  unfold way4 at w4
                  show _ = some ((((((((b0 : Int) - 240) * 64 + b1 - 128) * 64 + b2 - 128) * 64 + b3 - 128).toNat : Nat) : Int), 4)
                  rw [Int.toNat_of_nonneg (by omega)]
                · rw [if_neg (fun h => w4 (hh.mp h)), show (4 : Int) + 1 = 5 by omega, ways_no w1 w2 w3 w4, spec_RuneAt.l0, if_neg (by omega), spec_RuneAt.j1, if_neg (by decide)]
                  rfl
              · rw [if_neg c4, ways_no w1 w2 w3 (no (by omega))]; rfl
          · rw [if_neg c3, ways_no w1 w2 (no3 (by omega)) (no (by omega))]; rfl
      · rw [if_neg c2, ways_no w1 (no2 (by omega)) (no3 (by omega)) (no (by omega))]; rfl
  · rw [if_neg c1]
    have : n = 0 := by omega
    subst this
    unfold runeN
    rw [if_pos rfl]
    rfl

theorem spec_l01Rune_ok (r : Int) : spec_l01Rune.f r = some (mayB r) := by
  unfold spec_l01Rune.f
  cases h : mayB r with
  | true =>
    have h' := mayB_iff.mp h
    split
    · rfl
    · split
      · rfl
      · split
        · split
          · rfl
          · rw [if_pos (by omega), if_neg (by omega), if_neg (by omega), bne_iff_ne.mpr (by omega)]
        · omega
  | false =>
    have h' := mayB_not.mp h
    rw [if_neg (by omega), if_neg (by omega)]
    have tail : (if r > 159 then (if r = 65279 then some false else if r = 65534 then some false else some (r != 65535)) else some false) = some false := by
      split
      · split
        · rfl
        · split
          · rfl
          · rw [show r = 65535 by omega]; rfl
      · rfl
    split
    · rw [if_neg (by omega)]; exact tail
    · exact tail

theorem spec_Clean_l0 (s : ByteArray) (hs : s.size ≤ 140737488351232) (d : Nat) : ∀ (k : Nat) (p : Int), 0 ≤ p → p ≤ s.size → (s.size : Int) - p ≤ d → d + 50 ≤ k → spec_Clean.l0 k s p = some (cleanN s d p) := by
  induction d with
  | zero =>
    intro k p h0 h1 hd hk
    obtain ⟨k, rfl⟩ : ∃ m, k = m + 1 := ⟨k - 1, by omega⟩
    rw [spec_Clean.l0, if_neg (by omega)]; rfl
  | succ d ih =>
    intro k p h0 h1 hd hk
    obtain ⟨k, rfl⟩ : ∃ m, k = m + 1 := ⟨k - 1, by omega⟩
    have hr := runeAtM_le s p h0 h1
    rw [spec_Clean.l0, cleanN, spec_RuneAt_ok s p hs k (by omega), Option.bind_some, spec_l01Rune_ok, Option.bind_some]
    by_cases c : p < (s.size : Int)
    · rw [if_pos c, if_pos c]
      by_cases c2 : (runeAtM s p).2 = 0
      · rw [if_pos c2, if_pos c2]
      · rw [if_neg c2, if_neg c2]
        by_cases c3 : mayB (runeAtM s p).1 = true
        · rw [if_pos c3, if_pos c3, w64 (by omega) (by omega)]
          exact ih k _ (by omega) (by omega) (by omega) (by omega)
        · rw [if_neg c3, if_neg c3]
    · rw [if_neg c, if_neg c]
theorem spec_Clean_ok (s : ByteArray) (hs : s.size ≤ 140737488351232) (k : Nat) (hk : s.size + 50 ≤ k) : spec_Clean.f k s = some (cleanM s) := spec_Clean_l0 s hs s.size k 0 (by omega) (by omega) (by omega) hk

theorem spec_Normal_l0 (l : List Int) (hl : l.length ≤ 60000) (d : Nat) : ∀ (k : Nat) (i : Int) (o : List Int), 0 ≤ i → i ≤ l.length → (l.length : Int) - i = d → (o.length : Int) ≤ i → d + 60100 ≤ k →
    spec_Normal.l0 k l i o = some (if cleanM (strOfNums (o ++ crN (l.drop i.toNat))) = ((strOfNums (o ++ crN (l.drop i.toNat))).size : Int) then (strOfNums (o ++ crN (l.drop i.toNat)), 0) else ((⟨#[]⟩ : ByteArray), 2)) := by
  induction d with
  | zero =>
    intro k i o h0 h1 hd ho hk
    obtain ⟨k, rfl⟩ : ∃ m, k = m + 1 := ⟨k - 1, by omega⟩
    rw [spec_Normal.l0, if_neg (by omega), drop_end _ _ (by omega), crN, List.append_nil]
    have hz : (strOfNums o).size = o.length := son_size o
    have hc := cleanM_le (strOfNums o)
    rw [spec_Clean_ok _ (by omega) k (by omega), Option.bind_some]
    by_cases c : cleanM (strOfNums o) = ((strOfNums o).size : Int)
    · rw [if_pos c, if_neg (by omega)]
    · rw [if_neg c, if_pos (by omega)]
  | succ d ih =>
    intro k i o h0 h1 hd ho hk
    obtain ⟨k, rfl⟩ : ∃ m, k = m + 1 := ⟨k - 1, by omega⟩
    have hi : i < (l.length : Int) := by omega
    rw [spec_Normal.l0, if_pos hi, if_pos h0, w64 (n := i + 1) (by omega) (by omega), drop_rd l i h0 hi, crN, head_rd l (i + 1) (by omega)]
    have r0 := ih k (i + 1) o (by omega) (by omega) (by omega) (by omega) (by omega)
    have r1 := ih k (i + 1) (o ++ [10]) (by omega) (by omega) (by omega) (by rw [List.length_append, List.length_singleton]; omega) (by omega)
    have r2 := ih k (i + 1) (o ++ [rd l i]) (by omega) (by omega) (by omega) (by rw [List.length_append, List.length_singleton]; omega) (by omega)
    rw [List.append_assoc, List.singleton_append] at r1 r2
    rw [r0, r1, r2, if_pos (show o.length < 140737488355328 by omega), if_pos (show o.length < 140737488355328 by omega)]
    by_cases c : rd l i = 13
    · rw [if_pos c, if_pos c]
      by_cases c2 : i + 1 ≥ (l.length : Int)
      · rw [if_pos c2, if_neg (show ¬ i + 1 < (l.length : Int) by omega), if_neg (show ¬ (none : Option Int) = some 10 by simp)]
      · rw [if_neg c2, if_pos (by omega), if_pos (by omega), if_pos (show i + 1 < (l.length : Int) by omega)]
        by_cases c3 : rd l (i + 1) = 10
        · rw [if_pos c3, if_pos (show some (rd l (i + 1)) = some 10 by rw [c3])]
        · rw [if_neg c3, if_neg (show ¬ some (rd l (i + 1)) = some 10 from fun h => c3 (Option.some.inj h))]
    · rw [if_neg c, if_neg c]
theorem spec_Normal_ok (l : List Int) (k : Nat) (hk : l.length + 60300 ≤ k) : spec_Normal.f k l = some (normM l) := by
  unfold spec_Normal.f normM
  by_cases h : (l.length : Int) > 60000
  · rw [if_pos h, if_pos h]
  · rw [if_neg h, if_neg h]
    obtain ⟨k, rfl⟩ : ∃ m, k = m + 2 := ⟨k - 2, by omega⟩
    have jf : spec_Normal.j0 (k + 2) l 0 false = some (normT l) := by
      rw [spec_Normal.j0, if_neg (by decide), spec_Normal.j1, spec_Normal_l0 l (by omega) l.length k 0 [] (by omega) (by omega) (by omega) (by simp) (by omega)]
      rfl
    have jt : 3 ≤ l.length → spec_Normal.j0 (k + 2) l 0 true = some (normT (l.drop 3)) := fun h3 => by
      rw [spec_Normal.j0, if_pos rfl, spec_Normal.j1, spec_Normal_l0 l (by omega) (l.length - 3) k 3 [] (by omega) (by omega) (by omega) (by simp) (by omega)]
      rfl
    unfold bomB
    by_cases c : 3 ≤ l.length ∧ rd l 0 = 239 ∧ rd l 1 = 187 ∧ rd l 2 = 191
    · obtain ⟨c0, c1, c2, c3⟩ := c
      rw [if_pos (by omega), if_pos (by omega), if_pos c1, if_pos (by omega), if_pos c2, if_pos (by omega), c3, if_pos (decide_eq_true ⟨c0, c1, c2, rfl⟩)]
      exact jt c0
    · rw [if_neg (show ¬ decide (3 ≤ l.length ∧ rd l 0 = 239 ∧ rd l 1 = 187 ∧ rd l 2 = 191) = true from fun h => c (of_decide_eq_true h)), jf]
      by_cases c0 : (l.length : Int) ≥ 3
      · rw [if_pos c0, if_pos (show (0 : Int) < (l.length : Int) by omega)]
        by_cases c1 : rd l 0 = 239
        · rw [if_pos c1, if_pos (show (1 : Int) < (l.length : Int) by omega)]
          by_cases c2 : rd l 1 = 187
          · rw [if_pos c2, if_pos (show (2 : Int) < (l.length : Int) by omega), show (rd l 2 == 191) = false from beq_eq_false_iff_ne.mpr (fun c3 => c ⟨by omega, c1, c2, c3⟩), jf]
          · rw [if_neg c2]
        · rw [if_neg c1]
      · rw [if_neg c0]

theorem laws_toByteS_l0 (l : List Int) (hl : l.length ≤ 1048576) (d : Nat) : ∀ (k : Nat) (i : Int), 0 ≤ i → (l.length : Int) - i = d → d < k →
    laws_toByteS.l0 k l (l.take i.toNat ++ List.replicate (l.length - i.toNat) 0) i = some l := by
  induction d with
  | zero =>
    intro k i h0 hd hk
    obtain ⟨k, rfl⟩ : ∃ m, k = m + 1 := ⟨k - 1, by omega⟩
    rw [laws_toByteS.l0, if_neg (by omega), copy_end 0 l i (by omega)]
  | succ d ih =>
    intro k i h0 hd hk
    obtain ⟨k, rfl⟩ : ∃ m, k = m + 1 := ⟨k - 1, by omega⟩
    have hi : i < (l.length : Int) := by omega
    rw [laws_toByteS.l0, if_pos hi, if_pos h0, copy_len 0 l i h0 (by omega), if_pos hi, copy_set 0 (rd l i) l i h0 hi (getD_some 0 l i h0 hi), w64 (by omega) (by omega)]
    exact ih k (i + 1) (by omega) (by omega) (by omega)
theorem laws_toByteS_ok (l : List Int) (hl : l.length ≤ 1048576) (k : Nat) (hk : l.length < k) : laws_toByteS.f k l = some l := by
  unfold laws_toByteS.f
  rw [if_pos (by omega), if_pos (by omega)]
  have := laws_toByteS_l0 l hl l.length k 0 (by omega) (by omega) hk
  exact this

theorem x_utf8_DecodeRuneInString : True := trivial

theorem impl_spot_ok (s : ByteArray) (p : Int) : impl_spot.f s p = some (spotM s p) := by
  unfold impl_spot.f; rw [mn_mx_spotM]

theorem impl_RuneAt_ok (s : ByteArray) (p : Int) : impl_RuneAt.f s p = some (runeAtM s p) := by
  have h0 := spotM_lo s p
  have h1 := spotM_hi s p
  unfold impl_RuneAt.f runeAtM runeAtN utf8_DecodeRuneInString.f
  rw [impl_spot_ok, Option.bind_some]
  generalize spotM s p = q at h0 h1 ⊢
  rw [if_pos h0, if_pos h1, Option.bind_some]
  obtain ⟨Q, rfl⟩ := Int.eq_ofNat_of_zero_le h0
  rw [show ((Q : Nat) : Int).toNat = Q by omega]
  have hz : (s.extract Q s.size).size = s.size - Q := size_ext _ _ _ (Nat.le_refl _)
  have hg : Lib.decodeGo (s.extract Q s.size) = if s.size - Q = 0 then (65533, 0) else Lib.decodeN (s.size - Q) (s.data.toList.getD Q 0).toNat (s.data.toList.getD (Q + 1) 0).toNat (s.data.toList.getD (Q + 2) 0).toNat (s.data.toList.getD (Q + 3) 0).toNat := by
    unfold Lib.decodeGo
    rw [hz, decode_ext, Lib.decode_N, size_dl]
  rw [hg]
  unfold runeN
  by_cases c : s.size - Q = 0
  · rw [if_pos c, if_pos c]
    rfl
  · rw [if_neg c, if_neg c]
    have hr := Lib.decodeN_rune_le (s.size - Q) (s.data.toList.getD Q 0).toNat (s.data.toList.getD (Q + 1) 0).toNat (s.data.toList.getD (Q + 2) 0).toNat (s.data.toList.getD (Q + 3) 0).toNat (UInt8.toNat_lt _)
    have hw := Lib.decodeN_ge1 (s.size - Q) (s.data.toList.getD Q 0).toNat (s.data.toList.getD (Q + 1) 0).toNat (s.data.toList.getD (Q + 2) 0).toNat (s.data.toList.getD (Q + 3) 0).toNat
    generalize Lib.decodeN (s.size - Q) (s.data.toList.getD Q 0).toNat (s.data.toList.getD (Q + 1) 0).toNat (s.data.toList.getD (Q + 2) 0).toNat (s.data.toList.getD (Q + 3) 0).toNat = d at hr hw ⊢
    obtain ⟨r, w⟩ := d
    dsimp only at hr hw ⊢
    rw [if_neg (show ¬ ((w : Nat) : Int) = 0 by omega)]
    by_cases c1 : r = 65533
    · rw [if_pos (show ((r : Nat) : Int) = 65533 by omega)]
      by_cases c2 : w = 1
      · rw [if_pos (show ((w : Nat) : Int) = 1 by omega), if_pos (by rw [c1, c2])]; rfl
      · rw [if_neg (show ¬ ((w : Nat) : Int) = 1 by omega), if_neg (fun h => c2 (by injection h)), w64 (by omega) (by omega)]
    · rw [if_neg (show ¬ ((r : Nat) : Int) = 65533 by omega), if_neg (fun h => c1 (by injection h)), w64 (by omega) (by omega)]

theorem impl_within_ok (a b c : Int) : impl_within.f a b c = some (decide (b ≤ a ∧ a ≤ c)) := by
  unfold impl_within.f
  by_cases h : a ≥ b
  · rw [if_pos h]; simp only [Option.some.injEq, decide_eq_decide]; omega
  · rw [if_neg h]; simp only [Option.some.injEq]; symm; simp only [decide_eq_false_iff_not]; omega

theorem impl_mayStand_ok (r : Int) : impl_mayStand.f r = some (mayB r) := by
  unfold impl_mayStand.f impl_within.f
  cases h : mayB r with
  | true =>
    have h' := mayB_iff.mp h
    split
    · rfl
    · split
      · rfl
      · by_cases c : r ≥ 32
        · rw [if_pos c, Option.bind_some]
          by_cases c2 : r ≤ 126
          · rw [if_pos (decide_eq_true c2)]
          · rw [if_neg (by rw [decide_eq_false c2]; decide), if_pos (by omega), if_neg (by omega), if_neg (by omega), bne_iff_ne.mpr (by omega)]
        · omega
  | false =>
    have h' := mayB_not.mp h
    rw [if_neg (by omega), if_neg (by omega)]
    have tail : (if r > 159 then (if r = 65279 then some false else if r = 65534 then some false else some (r != 65535)) else some false) = some false := by
      split
      · split
        · rfl
        · split
          · rfl
          · rw [show r = 65535 by omega]; rfl
      · rfl
    by_cases c : r ≥ 32
    · rw [if_pos c, Option.bind_some, decide_eq_false (show ¬ r ≤ 126 by omega), if_neg (by decide)]; exact tail
    · rw [if_neg c, Option.bind_some, if_neg (by decide)]; exact tail

theorem impl_Clean_l0 (s : ByteArray) (hs : s.size ≤ 140737488351232) (d : Nat) : ∀ (k : Nat) (p : Int), 0 ≤ p → p ≤ s.size → (s.size : Int) - p ≤ d → d < k → impl_Clean.l0 k s p = some (cleanN s d p) := by
  induction d with
  | zero =>
    intro k p h0 h1 hd hk
    obtain ⟨k, rfl⟩ : ∃ m, k = m + 1 := ⟨k - 1, by omega⟩
    rw [impl_Clean.l0, if_neg (by omega), cleanN, show (s.size : Int) = p by omega]
  | succ d ih =>
    intro k p h0 h1 hd hk
    obtain ⟨k, rfl⟩ : ∃ m, k = m + 1 := ⟨k - 1, by omega⟩
    have hr := runeAtM_le s p h0 h1
    rw [impl_Clean.l0, cleanN, impl_RuneAt_ok s p, Option.bind_some, impl_mayStand_ok, Option.bind_some]
    by_cases c : p < (s.size : Int)
    · rw [if_pos c, if_pos c]
      by_cases c2 : (runeAtM s p).2 = 0
      · rw [if_pos c2, if_pos c2]
      · rw [if_neg c2, if_neg c2]
        by_cases c3 : mayB (runeAtM s p).1 = true
        · rw [if_pos c3, if_pos c3, w64 (by omega) (by omega)]
          exact ih k _ (by omega) (by omega) (by omega) (by omega)
        · rw [if_neg c3, if_neg c3]
    · rw [if_neg c, if_neg c, show (s.size : Int) = p by omega]
theorem impl_Clean_ok (s : ByteArray) (hs : s.size ≤ 140737488351232) (k : Nat) (hk : s.size < k) : impl_Clean.f k s = some (cleanM s) := impl_Clean_l0 s hs s.size k 0 (by omega) (by omega) (by omega) hk

theorem impl_Normal_l0 (l : List Int) (hl : l.length ≤ 60000) (d : Nat) : ∀ (k : Nat) (i : Int) (o : List Int), 0 ≤ i → i ≤ l.length → (l.length : Int) - i = d → (o.length : Int) ≤ i → d + 60100 ≤ k →
    impl_Normal.l0 k l o l (l.length : Int) i = some (if cleanM (strOfNums (o ++ crN (l.drop i.toNat))) = ((strOfNums (o ++ crN (l.drop i.toNat))).size : Int) then (strOfNums (o ++ crN (l.drop i.toNat)), 0) else ((⟨#[]⟩ : ByteArray), 2)) := by
  induction d with
  | zero =>
    intro k i o h0 h1 hd ho hk
    obtain ⟨k, rfl⟩ : ∃ m, k = m + 1 := ⟨k - 1, by omega⟩
    rw [impl_Normal.l0, if_neg (by omega), drop_end _ _ (by omega), crN, List.append_nil]
    have hz : (strOfNums o).size = o.length := son_size o
    rw [impl_Clean_ok _ (by omega) k (by omega), Option.bind_some]
    by_cases c : cleanM (strOfNums o) = ((strOfNums o).size : Int)
    · rw [if_pos c, if_pos c]
    · rw [if_neg c, if_neg c]
  | succ d ih =>
    intro k i o h0 h1 hd ho hk
    obtain ⟨k, rfl⟩ : ∃ m, k = m + 1 := ⟨k - 1, by omega⟩
    have hi : i < (l.length : Int) := by omega
    rw [impl_Normal.l0, if_pos hi, if_pos h0, w64 (n := i + 1) (by omega) (by omega), drop_rd l i h0 hi, crN, head_rd l (i + 1) (by omega)]
    have r0 := ih k (i + 1) o (by omega) (by omega) (by omega) (by omega) (by omega)
    have r1 := ih k (i + 1) (o ++ [10]) (by omega) (by omega) (by omega) (by rw [List.length_append, List.length_singleton]; omega) (by omega)
    have r2 := ih k (i + 1) (o ++ [rd l i]) (by omega) (by omega) (by omega) (by rw [List.length_append, List.length_singleton]; omega) (by omega)
    rw [List.append_assoc, List.singleton_append] at r1 r2
    rw [r0, r1, r2, if_pos (show o.length < 140737488355328 by omega), if_pos (show o.length < 140737488355328 by omega), if_pos hi]
    by_cases c : rd l i = 13
    · rw [if_pos c, if_pos c]
      by_cases c2 : i + 1 = (l.length : Int)
      · rw [if_pos c2, if_neg (show ¬ i + 1 < (l.length : Int) by omega), if_neg (show ¬ (none : Option Int) = some 10 by simp)]
      · rw [if_neg c2, if_pos (show 0 ≤ i + 1 by omega), if_pos (show i + 1 < (l.length : Int) by omega), if_pos (show i + 1 < (l.length : Int) by omega)]
        by_cases c3 : rd l (i + 1) = 10
        · rw [if_pos c3, if_pos (show some (rd l (i + 1)) = some 10 by rw [c3])]
        · rw [if_neg c3, if_neg (show ¬ some (rd l (i + 1)) = some 10 from fun h => c3 (Option.some.inj h))]
    · rw [if_neg c, if_neg c]
theorem impl_Normal_ok (l : List Int) (k : Nat) (hk : l.length + 60300 ≤ k) : impl_Normal.f k l = some (normM l) := by
  unfold impl_Normal.f normM
  by_cases h : (l.length : Int) > 60000
  · rw [if_pos h, if_pos h]
  · rw [if_neg h, if_neg h]
    obtain ⟨k, rfl⟩ : ∃ m, k = m + 2 := ⟨k - 2, by omega⟩
    have jf : impl_Normal.j0 (k + 2) l false = some (normT l) := by
      rw [impl_Normal.j0, if_neg (by decide), impl_Normal.j1, impl_Normal_l0 l (by omega) l.length k 0 [] (by omega) (by omega) (by omega) (by simp) (by omega)]
      rfl
    have jt : 3 ≤ l.length → impl_Normal.j0 (k + 2) l true = some (normT (l.drop 3)) := fun h3 => by
      have hz : (l.drop 3).length = l.length - 3 := List.length_drop ..
      rw [impl_Normal.j0, if_pos rfl, if_pos (by omega), impl_Normal.j1, impl_Normal_l0 (l.drop 3) (by omega) (l.length - 3) k 0 [] (by omega) (by omega) (by omega) (by simp) (by omega)]
      rfl
    unfold bomB
    by_cases c : 3 ≤ l.length ∧ rd l 0 = 239 ∧ rd l 1 = 187 ∧ rd l 2 = 191
    · obtain ⟨c0, c1, c2, c3⟩ := c
      rw [if_pos (by omega), if_pos (by omega), if_pos c1, if_pos (by omega), if_pos c2, if_pos (by omega), c3, if_pos (decide_eq_true ⟨c0, c1, c2, rfl⟩)]
      exact jt c0
    · rw [if_neg (show ¬ decide (3 ≤ l.length ∧ rd l 0 = 239 ∧ rd l 1 = 187 ∧ rd l 2 = 191) = true from fun h => c (of_decide_eq_true h)), jf]
      by_cases c0 : (l.length : Int) ≥ 3
      · rw [if_pos c0, if_pos (show (0 : Int) < (l.length : Int) by omega)]
        by_cases c1 : rd l 0 = 239
        · rw [if_pos c1, if_pos (show (1 : Int) < (l.length : Int) by omega)]
          by_cases c2 : rd l 1 = 187
          · rw [if_pos c2, if_pos (show (2 : Int) < (l.length : Int) by omega), show (rd l 2 == 191) = false from beq_eq_false_iff_ne.mpr (fun c3 => c ⟨by omega, c1, c2, c3⟩), jf]
          · rw [if_neg c2]
        · rw [if_neg c1]
      · rw [if_neg c0]

theorem laws_eqByteS_l0 (l : List Int) (hl : l.length ≤ 1048576) (d : Nat) : ∀ (k : Nat) (i : Int), 0 ≤ i → (l.length : Int) - i = d → d < k → laws_eqByteS.l0 k l l i = some true := by
  induction d with
  | zero =>
    intro k i h0 hd hk
    obtain ⟨k, rfl⟩ : ∃ m, k = m + 1 := ⟨k - 1, by omega⟩
    rw [laws_eqByteS.l0, if_neg (by omega)]
  | succ d ih =>
    intro k i h0 hd hk
    obtain ⟨k, rfl⟩ : ∃ m, k = m + 1 := ⟨k - 1, by omega⟩
    rw [laws_eqByteS.l0, if_pos (by omega), if_pos h0, if_pos (by omega), if_pos rfl, w64 (by omega) (by omega)]
    exact ih k (i + 1) (by omega) (by omega) (by omega)
theorem laws_eqByteS_ok (l : List Int) (hl : l.length ≤ 1048576) (k : Nat) (hk : l.length < k) : laws_eqByteS.f k l l = some true := by
  unfold laws_eqByteS.f
  rw [if_pos rfl]
  exact laws_eqByteS_l0 l hl l.length k 0 (by omega) (by omega) hk

theorem FnExactNormal : laws_FnExactNormal.Pure := by
  intro l h1 h2 _
  by_cases c : (l.length : Int) > 1048576
  · exact ⟨0, by unfold laws_FnExactNormal.f; rw [if_pos c]⟩
  · refine ⟨l.length + 60400 + 1, ?_⟩
    unfold laws_FnExactNormal.f
    rw [if_neg c, laws_toByteS_ok l (by omega) _ (by omega), Option.bind_some, spec_Normal_ok l _ (by omega), Option.bind_some, Option.bind_some, impl_Normal_ok l _ (by omega), Option.bind_some, if_pos rfl]
    rw [laws_FnExactNormal.j0, bne_self_eq_false, if_neg (by decide), laws_toByteS_ok l (by omega) _ (by omega), Option.bind_some, laws_eqByteS_ok l (by omega) _ (by omega), Option.bind_some, if_pos rfl]

end Go.Proofs.YtjbhflicehnocaaDoor.Pure
