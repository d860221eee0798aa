/- For every text of at most 2^20 bytes and every place, the program's EscapeAt answers as the reference's does; no condition beyond the statement's own. -/
import Derived.Test.YtjbhflicehnocaaPFnExactEscapeAtx0
import Derived.Test.YtjbhflicehnocaaPFnExactEscapeAtx1
import Derived.Test.YtjbhflicehnocaaPFnExactEscapeAtx2
import Derived.Test.YtjbhflicehnocaaPFnExactEscapeAtx3
import Derived.Test.YtjbhflicehnocaaPFnExactEscapeAtx4
import Derived.Test.YtjbhflicehnocaaEsc
import Derived.Test.YtjbhflicehnocaaLst
import Derived.Test.YtjbhflicehnocaaMine
import Derived.Test.YtjbhflicehnocaaRune
import Derived.Test.YtjbhflicehnocaaTxt
namespace Go.Proofs.Ytjbhflicehnocaa.Pure
open Go.RowKit Go.Proofs.Ytjbhflicehnocaa.PFnExactEscapeAt Go.Proofs.YtjbhflicehnocaaW.PrintWords Go.Proofs.YtjbhflicehnocaaW.PrintLast Go.Proofs.YtjbhflicehnocaaW.PrintMore Go.Proofs.Ytjbhflicehnocaa.Mine

theorem spec_l01P_ok (s : ByteArray) (p : Int) : spec_l01P.f s p = some (spotM s p) := by
  unfold spec_l01P.f spotM
  split
  · rfl
  · split <;> rfl

theorem spec_RuneBytes_ok (r : Int) (k : Nat) (hk : 1 ≤ k) : spec_RuneBytes.f k r = some (runeM r) := by
  obtain ⟨k, rfl⟩ : ∃ m, k = m + 1 := ⟨k - 1, by omega⟩
  unfold spec_RuneBytes.f runeM
  by_cases h : okRune r
  · rw [if_pos h]
    have h' := h
    obtain ⟨a, b, c⟩ := h'
    rw [if_neg (by omega), if_neg (by omega)]
    have e : (if r ≥ 55296 then spec_RuneBytes.j0 (k + 1) r (decide (r ≤ 57343)) else spec_RuneBytes.j0 (k + 1) r false) = spec_RuneBytes.j0 (k + 1) r false := by
      by_cases h5 : r ≥ 55296
      · rw [if_pos h5, show decide (r ≤ 57343) = false by simp; omega]
      · rw [if_neg h5]
    rw [e, enc_eq h]
    simp only [spec_RuneBytes.j0, Bool.false_eq_true, if_false]
    by_cases h1 : r < 128
    · rw [if_pos h1, if_pos (show r.toNat < 0x80 by omega), son1, show (r % 256).toNat = r.toNat by omega]
    · rw [if_neg h1, if_neg (show ¬ r.toNat < 0x80 by omega)]
      by_cases h2 : r < 2048
      · rw [if_pos h2, if_pos (show r.toNat < 0x800 by omega), son2, Int.tdiv_eq_ediv_of_nonneg a, Int.tmod_eq_emod_of_nonneg a, w64 (n := r / 64) (by omega) (by omega), w64 (by omega) (by omega), w64 (by omega) (by omega),
          show ((192 + r / 64) % 256).toNat = 0xC0 + r.toNat / 64 by omega, show ((128 + r % 64) % 256).toNat = 0x80 + r.toNat % 64 by omega]
      · rw [if_neg h2, if_neg (show ¬ r.toNat < 0x800 by omega)]
        by_cases h3 : r < 65536
        · rw [if_pos h3, if_pos (show r.toNat < 0x10000 by omega), son3, Int.tdiv_eq_ediv_of_nonneg a, Int.tdiv_eq_ediv_of_nonneg a, Int.tmod_eq_emod_of_nonneg a, w64 (n := r / 64) (by omega) (by omega), w64 (n := r / 4096) (by omega) (by omega),
            Int.tmod_eq_emod_of_nonneg (a := r / 64) (by omega), w64 (by omega) (by omega), w64 (by omega) (by omega), w64 (by omega) (by omega),
            show ((224 + r / 4096) % 256).toNat = 0xE0 + r.toNat / 4096 by omega, show ((128 + r / 64 % 64) % 256).toNat = 0x80 + r.toNat / 64 % 64 by omega, show ((128 + r % 64) % 256).toNat = 0x80 + r.toNat % 64 by omega]
        · rw [if_neg h3, if_neg (show ¬ r.toNat < 0x10000 by omega), son4, Int.tdiv_eq_ediv_of_nonneg a, Int.tdiv_eq_ediv_of_nonneg a, Int.tdiv_eq_ediv_of_nonneg a, Int.tmod_eq_emod_of_nonneg a, w64 (n := r / 64) (by omega) (by omega), w64 (n := r / 4096) (by omega) (by omega), w64 (n := r / 262144) (by omega) (by omega),
            Int.tmod_eq_emod_of_nonneg (a := r / 64) (by omega), Int.tmod_eq_emod_of_nonneg (a := r / 4096) (by omega), w64 (by omega) (by omega), w64 (by omega) (by omega), w64 (by omega) (by omega), w64 (by omega) (by omega),
            show ((240 + r / 262144) % 256).toNat = 0xF0 + r.toNat / 262144 by omega, show ((128 + r / 4096 % 64) % 256).toNat = 0x80 + r.toNat / 4096 % 64 by omega, show ((128 + r / 64 % 64) % 256).toNat = 0x80 + r.toNat / 64 % 64 by omega, show ((128 + r % 64) % 256).toNat = 0x80 + r.toNat % 64 by omega]
  · rw [if_neg h]
    have hc : r < 0 ∨ r > 1114111 ∨ (55296 ≤ r ∧ r ≤ 57343) := by unfold okRune at h; omega
    have hj : spec_RuneBytes.j0 (k + 1) r true = some (⟨#[]⟩ : ByteArray) := by simp only [spec_RuneBytes.j0, if_true]
    by_cases h1 : r < 0
    · rw [if_pos h1, hj]
    · rw [if_neg h1]
      by_cases h2 : r > 1114111
      · rw [if_pos h2, hj]
      · rw [if_neg h2, if_pos (by omega), show decide (r ≤ 57343) = true by simp; omega, hj]

theorem spec_l07Hex_l0 (s : ByteArray) (p m : Int) (hs : s.size ≤ 140737488351232) (hp : 0 ≤ p) (hp1 : p ≤ 140737488351240) (hm : 0 ≤ m) (hm8 : m ≤ 8) (d : Nat) : ∀ (k : Nat) (i x : Int), p ≤ i → i + d = p + m → 0 ≤ x → x + 1 ≤ cap d → 3 * d < k →
    spec_l07Hex.l0 k s p m x i = some ((hexN s d i x).getD (-1)) := by
  induction d with
  | zero =>
    intro k i x h0 h1 hx hc hk
    obtain ⟨k, rfl⟩ : ∃ m, k = m + 1 := ⟨k - 1, by omega⟩
    rw [spec_l07Hex.l0, w64 (n := p + m) (by omega) (by omega), if_neg (by omega)]; rfl
  | succ d ih =>
    intro k i x h0 h1 hx hc hk
    obtain ⟨k, rfl⟩ : ∃ m, k = m + 3 := ⟨k - 3, by omega⟩
    have hcap := cap_le d
    unfold cap at hc
    have b0 := bt_lo s i
    have b1 := bt_hi s i
    rw [spec_l07Hex.l0, w64 (n := p + m) (by omega) (by omega), if_pos (by omega), hexN]
    by_cases c : i ≥ (s.size : Int)
    · rw [if_pos c, byteM_end c]; rfl
    · rw [if_neg c, if_pos (by omega), if_pos (by omega), byteM_in (by omega) (by omega)]
      have j2 : ∀ f : Bool, (f = true ↔ (97 ≤ bt s i ∧ bt s i ≤ 102)) → ¬ (48 ≤ bt s i ∧ bt s i ≤ 57) → spec_l07Hex.j2 (k + 1) s p m x i (bt s i) f = some ((match hexD (bt s i) with | none => none | some v => hexN s d (i + 1) (16 * x + v)).getD (-1)) := by
        intro f hf hn
        unfold hexD
        rw [spec_l07Hex.j2, if_neg hn]
        by_cases c2 : 97 ≤ bt s i ∧ bt s i ≤ 102
        · rw [if_pos (hf.mpr c2), if_pos c2, show (bt s i - 97) % 256 = bt s i - 97 by omega, w64 (n := x * 16) (by omega) (by omega), w64 (n := x * 16 + (bt s i - 97)) (by omega) (by omega), w64 (by omega) (by omega), w64 (by omega) (by omega), show x * 16 + (bt s i - 97) + 10 = 16 * x + (bt s i - 87) by omega]
          exact ih k (i + 1) _ (by omega) (by omega) (by omega) (by omega) (by omega)
        · rw [if_neg (fun h => c2 (hf.mp h)), if_neg c2]
          by_cases c3 : 65 ≤ bt s i ∧ bt s i ≤ 70
          · rw [if_pos (by omega), if_pos (by omega), if_pos c3, show (bt s i - 65) % 256 = bt s i - 65 by omega, w64 (n := x * 16) (by omega) (by omega), w64 (n := x * 16 + (bt s i - 65)) (by omega) (by omega), w64 (by omega) (by omega), w64 (by omega) (by omega), show x * 16 + (bt s i - 65) + 10 = 16 * x + (bt s i - 55) by omega]
            exact ih k (i + 1) _ (by omega) (by omega) (by omega) (by omega) (by omega)
          · rw [if_neg c3]
            by_cases c4 : bt s i ≥ 65
            · rw [if_pos c4, if_neg (by omega)]; rfl
            · rw [if_neg c4]; rfl
      have j1 : ∀ f : Bool, (f = true ↔ (48 ≤ bt s i ∧ bt s i ≤ 57)) → spec_l07Hex.j1 (k + 2) s p m x i (bt s i) f = some ((match hexD (bt s i) with | none => none | some v => hexN s d (i + 1) (16 * x + v)).getD (-1)) := by
        intro f hf
        rw [spec_l07Hex.j1]
        by_cases c2 : 48 ≤ bt s i ∧ bt s i ≤ 57
        · unfold hexD
          rw [if_pos (hf.mpr c2), if_pos c2, show (bt s i - 48) % 256 = bt s i - 48 by omega, w64 (n := x * 16) (by omega) (by omega), w64 (by omega) (by omega), w64 (by omega) (by omega), show x * 16 + (bt s i - 48) = 16 * x + (bt s i - 48) by omega]
          exact ih (k + 1) (i + 1) _ (by omega) (by omega) (by omega) (by omega) (by omega)
        · rw [if_neg (fun h => c2 (hf.mp h))]
          by_cases c3 : bt s i ≥ 97
          · rw [if_pos c3]
            exact j2 _ (by rw [decide_eq_true_iff]; omega) c2
          · rw [if_neg c3]
            exact j2 _ (by simp; omega) c2
      by_cases c5 : bt s i ≥ 48
      · rw [if_pos c5]
        exact j1 _ (by rw [decide_eq_true_iff]; omega)
      · rw [if_neg c5]
        exact j1 _ (by simp; omega)
theorem spec_l07Hex_ok (s : ByteArray) (p m : Int) (hs : s.size ≤ 140737488351232) (hp : 0 ≤ p) (hp1 : p ≤ 140737488351240) (hm : 0 ≤ m) (hm8 : m ≤ 8) (k : Nat) (hk : 30 ≤ k) : spec_l07Hex.f k s p m = some ((hexN s m.toNat p 0).getD (-1)) := by
  unfold spec_l07Hex.f
  have hc : (1 : Int) ≤ cap m.toNat := by
    have : m.toNat = 0 ∨ m.toNat = 1 ∨ m.toNat = 2 ∨ m.toNat = 3 ∨ m.toNat = 4 ∨ m.toNat = 5 ∨ m.toNat = 6 ∨ m.toNat = 7 ∨ m.toNat = 8 := by omega
    rcases this with h | h | h | h | h | h | h | h | h <;> rw [h] <;> decide
  exact spec_l07Hex_l0 s p m hs hp hp1 hm hm8 m.toNat k p 0 (Int.le_refl _) (by omega) (by omega) hc (by omega)

theorem spec_EscapeAt_j2 (s : ByteArray) (q m : Int) (hs : s.size ≤ 140737488351232) (h0 : 0 ≤ q) (h1 : q ≤ s.size) (hm : 0 ≤ m) (hm8 : m ≤ 8) (k : Nat) (hk : 40 ≤ k) : spec_EscapeAt.j2 k s q m = some (escTail s q m) := by
  obtain ⟨k, rfl⟩ : ∃ m, k = m + 1 := ⟨k - 1, by omega⟩
  rw [spec_EscapeAt.j2]
  unfold escTail
  by_cases c : m = 0
  · rw [if_pos c, if_pos c]
  · rw [if_neg c, if_neg c, w64 (n := q + 2) (by omega) (by omega), spec_l07Hex_ok s (q + 2) m hs (by omega) (by omega) hm hm8 k (by omega), Option.bind_some, spec_RuneBytes_ok _ k (by omega), Option.bind_some, w64 (n := q + 2 + m) (by omega) (by omega)]
    cases hexN s m.toNat (q + 2) 0 with
    | none =>
      have h : (runeM (-1)).size = 0 := rfl
      show (if (runeM (-1)).toList = [] then _ else _) = _
      rw [if_pos (tl_nil.mpr h)]
    | some x =>
      show (if (runeM x).toList = [] then _ else _) = _
      by_cases c2 : (runeM x).size = 0
      · rw [if_pos (tl_nil.mpr c2)]
        show _ = some (if (runeM x).size = 0 then _ else _)
        rw [if_pos c2]
      · rw [if_neg (fun h => c2 (tl_nil.mp h))]
        show _ = some (if (runeM x).size = 0 then _ else _)
        rw [if_neg c2]; rfl
theorem spec_EscapeAt_l0 (s : ByteArray) (q b : Int) (hs : s.size ≤ 140737488351232) (h0 : 0 ≤ q) (h1 : q ≤ s.size) (d : Nat) : ∀ (k : Nat) (i : Int), 0 ≤ i → i + d = 18 → d + 60 ≤ k →
    spec_EscapeAt.l0 k s q b shortA (shortA.length : Int) i = some (match pickN (shortA.drop i.toNat) (shortB.drop i.toNat) b with | some r => (runeM r, q + 2) | none => escTail s q (manyM b)) := by
  induction d with
  | zero =>
    intro k i hi hd hk
    obtain ⟨k, rfl⟩ : ∃ m, k = m + 1 := ⟨k - 1, by omega⟩
    have : i = 18 := by omega
    subst this
    rw [spec_EscapeAt.l0, if_neg (by decide), manyM_eq]
    show _ = some (escTail s q _)
    by_cases c1 : b = 120
    · rw [if_pos c1, if_pos c1]; exact spec_EscapeAt_j2 s q 2 hs h0 h1 (by omega) (by omega) k (by omega)
    · rw [if_neg c1, if_neg c1]
      by_cases c2 : b = 117
      · rw [if_pos c2, if_pos c2]; exact spec_EscapeAt_j2 s q 4 hs h0 h1 (by omega) (by omega) k (by omega)
      · rw [if_neg c2, if_neg c2]
        by_cases c3 : b = 85
        · rw [if_pos c3, if_pos c3]; exact spec_EscapeAt_j2 s q 8 hs h0 h1 (by omega) (by omega) k (by omega)
        · rw [if_neg c3, if_neg c3]; exact spec_EscapeAt_j2 s q 0 hs h0 h1 (by omega) (by omega) k (by omega)
  | succ d ih =>
    intro k i hi hd hk
    obtain ⟨k, rfl⟩ : ∃ m, k = m + 1 := ⟨k - 1, by omega⟩
    have la : (shortA.length : Int) = 18 := rfl
    have lb : (shortB.length : Int) = 18 := rfl
    rw [spec_EscapeAt.l0, if_pos (by omega), if_pos hi, if_pos (by omega), drop_at 0 shortA i hi (by omega), drop_at 0 shortB i hi (by omega), pickN]
    show (if b = shortA.getD i.toNat 0 then _ else _) = _
    by_cases c : b = shortA.getD i.toNat 0
    · rw [if_pos c, if_pos c, Option.bind_some]
      show (if i < (shortB.length : Int) then (spec_RuneBytes.f k (rd shortB i)).bind _ else _) = _
      rw [if_pos (by omega), spec_RuneBytes_ok _ k (by omega), Option.bind_some, w64 (n := q + 2) (by omega) (by omega)]
      rfl
    · rw [if_neg c, if_neg c, w64 (n := i + 1) (by omega) (by omega)]
      exact ih k (i + 1) (by omega) (by omega) (by omega)
theorem spec_EscapeAt_ok (s : ByteArray) (p : Int) (hs : s.size ≤ 140737488351232) (k : Nat) (hk : 100 ≤ k) : spec_EscapeAt.f k s p = some (escM s p) := by
  obtain ⟨k, rfl⟩ : ∃ m, k = m + 1 := ⟨k - 1, by omega⟩
  have h0 := spotM_lo s p
  have h1 := spotM_hi s p
  unfold spec_EscapeAt.f escM
  rw [spec_l01P_ok, Option.bind_some]
  generalize spotM s p = q at h0 h1 ⊢
  rw [w64 (n := q + 1) (by omega) (by omega)]
  have jt : spec_EscapeAt.j0 (k + 1) s q true = some ((⟨#[]⟩ : ByteArray), 0) := by rw [spec_EscapeAt.j0, if_pos rfl]
  by_cases c : q + 1 ≥ (s.size : Int)
  · rw [if_pos c, jt, if_neg (fun h => by omega)]
  · rw [if_neg c, if_pos h0, if_pos (by omega), byteM_in h0 (by omega)]
    by_cases c2 : bt s q = 92
    · rw [show (bt s q != 92) = false by simp [c2], if_pos ⟨c2, by omega⟩, spec_EscapeAt.j0, if_neg (by decide), w64 (n := q + 1) (by omega) (by omega), if_pos (by omega), if_pos (by omega), Option.bind_some]
      have := spec_EscapeAt_l0 s q (bt s (q + 1)) hs h0 h1 18 k 0 (by omega) (by omega) (by omega)
      exact this
    · rw [show (bt s q != 92) = true by simp [c2], jt, if_neg (fun h => c2 h.1)]

theorem impl_spot_ok (s : ByteArray) (p : Int) : impl_spot.f s p = some (spotM s p) := by
  unfold impl_spot.f; rw [mn_mx_spotM]

theorem impl_byteAt_ok (s : ByteArray) (p : Int) : impl_byteAt.f s p = some (byteM s p) := by
  have h0 := spotM_lo s p
  have h1 := spotM_hi s p
  have h2 := bt_lo s (spotM s p)
  have h3 := bt_hi s (spotM s p)
  simp only [impl_byteAt.f, impl_spot_ok, Option.bind_some]
  unfold byteM
  by_cases h : spotM s p = (s.size : Int)
  · rw [if_pos h, if_pos h]
  · rw [if_neg h, if_neg h, if_pos h0, if_pos (by omega), w64 (by omega) (by omega)]

set_option maxRecDepth 100000 in
theorem impl_shortEscape_all : ∀ n : Fin 256, impl_shortEscape.f 10 ((n.val : Nat) : Int) = some ((pickN shortA shortB ((n.val : Nat) : Int)).getD (-1)) := by decide +kernel
theorem impl_shortEscape_ok (b : Int) (h0 : 0 ≤ b) (h1 : b ≤ 255) (k : Nat) (hk : 10 ≤ k) : impl_shortEscape.f k b = some ((pickN shortA shortB b).getD (-1)) := by
  have := impl_shortEscape_all ⟨b.toNat, by omega⟩
  rw [show (((⟨b.toNat, by omega⟩ : Fin 256).val : Nat) : Int) = b by show ((b.toNat : Nat) : Int) = b; omega] at this
  obtain ⟨j, rfl⟩ : ∃ j, k = 10 + j := ⟨k - 10, by omega⟩
  exact more_rounds (g := fun k => impl_shortEscape.f k b) (fun k => impl_shortEscape.mono b k) 10 j _ this

theorem impl_within_ok (a b c : Int) : impl_within.f a b c = some (decide (b ≤ a ∧ a ≤ c)) := by
  unfold impl_within.f
  by_cases h : a ≥ b
  · rw [if_pos h]; simp only [Option.some.injEq, decide_eq_decide]; omega
  · rw [if_neg h]; simp only [Option.some.injEq]; symm; simp only [decide_eq_false_iff_not]; omega

theorem impl_RuneBytes_ok (r : Int) : impl_RuneBytes.f r = some (runeM r) := by
  simp only [impl_RuneBytes.f, impl_within_ok, Option.bind_some, decide_eq_true_eq]
  unfold runeM
  by_cases h : okRune r
  · have h' := h
    obtain ⟨a, b, c⟩ := h'
    have e : wrap32 r = r := by unfold wrap32; omega
    rw [if_pos h, if_pos ⟨a, b⟩, if_neg c, e]
  · rw [if_neg h]
    by_cases c : 0 ≤ r ∧ r ≤ 1114111
    · rw [if_pos c, if_pos (by unfold okRune at h; omega)]
    · rw [if_neg c]

theorem impl_hexValue_l0 (s : ByteArray) (p m : Int) (hs : s.size ≤ 140737488351232) (hp : 0 ≤ p) (hp1 : p ≤ 140737488351240) (hm8 : m ≤ 8) (d : Nat) : ∀ (k : Nat) (i x : Int), 0 ≤ i → i + d = m → 0 ≤ x → x + 1 ≤ cap d → d < k →
    impl_hexValue.l0 k s p x m i = some (match hexN s d (p + i) x with | none => (0, false) | some v => (v, true)) := by
  induction d with
  | zero =>
    intro k i x h0 h1 hx hc hk
    obtain ⟨k, rfl⟩ : ∃ m, k = m + 1 := ⟨k - 1, by omega⟩
    rw [impl_hexValue.l0, if_neg (by omega)]; rfl
  | succ d ih =>
    intro k i x h0 h1 hx hc hk
    obtain ⟨k, rfl⟩ : ∃ m, k = m + 1 := ⟨k - 1, by omega⟩
    have hcap := cap_le d
    unfold cap at hc
    have b0 := byteM_lo s (p + i)
    have b1 := byteM_hi s (p + i)
    rw [impl_hexValue.l0, if_pos (by omega), w64 (n := p + i) (by omega) (by omega), impl_byteAt_ok, Option.bind_some, impl_within_ok, Option.bind_some, impl_within_ok, Option.bind_some, impl_within_ok, Option.bind_some, hexN]
    unfold hexD
    generalize byteM s (p + i) = b at b0 b1 ⊢
    by_cases c1 : 48 ≤ b ∧ b ≤ 57
    · rw [if_pos (decide_eq_true c1), if_pos c1, w64 (n := 16 * x) (by omega) (by omega), w64 (n := 16 * x + b) (by omega) (by omega), w64 (by omega) (by omega), w64 (by omega) (by omega), show 16 * x + b - 48 = 16 * x + (b - 48) by omega]
      have := ih k (i + 1) (16 * x + (b - 48)) (by omega) (by omega) (by omega) (by omega) (by omega)
      rw [← Int.add_assoc] at this
      exact this
    · rw [if_neg (fun h => c1 (of_decide_eq_true h)), if_neg c1]
      by_cases c2 : 97 ≤ b ∧ b ≤ 102
      · rw [if_pos (decide_eq_true c2), if_pos c2, w64 (n := 16 * x) (by omega) (by omega), w64 (n := 16 * x + b) (by omega) (by omega), w64 (n := 16 * x + b - 97) (by omega) (by omega), w64 (by omega) (by omega), w64 (by omega) (by omega), show 16 * x + b - 97 + 10 = 16 * x + (b - 87) by omega]
        have := ih k (i + 1) (16 * x + (b - 87)) (by omega) (by omega) (by omega) (by omega) (by omega)
        rw [← Int.add_assoc] at this
        exact this
      · rw [if_neg (fun h => c2 (of_decide_eq_true h)), if_neg c2]
        by_cases c3 : 65 ≤ b ∧ b ≤ 70
        · rw [if_pos (decide_eq_true c3), if_pos c3, w64 (n := 16 * x) (by omega) (by omega), w64 (n := 16 * x + b) (by omega) (by omega), w64 (n := 16 * x + b - 65) (by omega) (by omega), w64 (by omega) (by omega), w64 (by omega) (by omega), show 16 * x + b - 65 + 10 = 16 * x + (b - 55) by omega]
          have := ih k (i + 1) (16 * x + (b - 55)) (by omega) (by omega) (by omega) (by omega) (by omega)
          rw [← Int.add_assoc] at this
          exact this
        · rw [if_neg (fun h => c3 (of_decide_eq_true h)), if_neg c3]
theorem impl_hexValue_ok (s : ByteArray) (p m : Int) (hs : s.size ≤ 140737488351232) (hp : 0 ≤ p) (hp1 : p ≤ 140737488351240) (hm : 0 ≤ m) (hm8 : m ≤ 8) (k : Nat) (hk : 10 ≤ k) : impl_hexValue.f k s p m = some (match hexN s m.toNat p 0 with | none => (0, false) | some v => (v, true)) := by
  unfold impl_hexValue.f
  have hc : (1 : Int) ≤ cap m.toNat := by
    have : m.toNat = 0 ∨ m.toNat = 1 ∨ m.toNat = 2 ∨ m.toNat = 3 ∨ m.toNat = 4 ∨ m.toNat = 5 ∨ m.toNat = 6 ∨ m.toNat = 7 ∨ m.toNat = 8 := by omega
    rcases this with h | h | h | h | h | h | h | h | h <;> rw [h] <;> decide
  have := impl_hexValue_l0 s p m hs hp hp1 hm8 m.toNat k 0 0 (by omega) (by omega) (by omega) hc (by omega)
  rw [Int.add_zero] at this
  exact this

theorem pick_pos : ∀ (xs ys : List Int), (∀ y ∈ ys, 0 ≤ y) → ∀ b r, pickN xs ys b = some r → 0 ≤ r := by
  intro xs
  induction xs with
  | nil => intro ys _ b r h; cases h
  | cons x xs ih =>
    intro ys hy b r h
    cases ys with
    | nil => cases h
    | cons y ys =>
      unfold pickN at h
      split at h
      · injection h with h; subst h; exact hy y (by simp)
      · exact ih ys (fun z hz => hy z (by simp [hz])) b r h
theorem impl_EscapeAt_ok (s : ByteArray) (p : Int) (hs : s.size ≤ 140737488351232) (k : Nat) (hk : 100 ≤ k) : impl_EscapeAt.f k s p = some (escM s p) := by
  obtain ⟨k, rfl⟩ : ∃ m, k = m + 1 := ⟨k - 1, by omega⟩
  have h0 := spotM_lo s p
  have h1 := spotM_hi s p
  unfold impl_EscapeAt.f escM
  rw [impl_spot_ok, Option.bind_some, impl_byteAt_ok, Option.bind_some]
  generalize spotM s p = q at h0 h1 ⊢
  rw [w64 (n := q + 1) (by omega) (by omega)]
  have jt : impl_EscapeAt.j0 (k + 1) s q true = some ((⟨#[]⟩ : ByteArray), 0) := by rw [impl_EscapeAt.j0, if_pos rfl]
  by_cases c2 : byteM s q = 92
  · rw [if_pos c2]
    by_cases c : q + 1 ≥ (s.size : Int)
    · rw [decide_eq_true c, jt, if_neg (fun h => by omega)]
    · rw [decide_eq_false c, if_pos ⟨c2, by omega⟩, impl_EscapeAt.j0, if_neg (by decide), w64 (n := q + 1) (by omega) (by omega), impl_byteAt_ok, Option.bind_some, byteM_in (by omega) (by omega)]
      have b0 := bt_lo s (q + 1)
      have b1 := bt_hi s (q + 1)
      generalize bt s (q + 1) = b at b0 b1 ⊢
      have m0 := manyM_lo b
      have hpos := pick_pos shortA shortB (by decide) b
      show (impl_shortEscape.f k b).bind _ = _
      rw [impl_shortEscape_ok b b0 b1 k (by omega), Option.bind_some, w64 (n := q + 2) (by omega) (by omega)]
      unfold escBody
      cases hpk : pickN shortA shortB b with
      | some r =>
        have := hpos r hpk
        show (if r ≥ 0 then _ else _) = _
        rw [if_pos (by omega)]
        show (impl_RuneBytes.f r).bind _ = _
        rw [impl_RuneBytes_ok, Option.bind_some]
      | none =>
        show (if (-1 : Int) ≥ 0 then _ else _) = _
        rw [if_neg (by omega)]
        show (impl_hexValue.f k s (q + 2) (manyM b)).bind _ = _
        rw [impl_hexValue_ok s (q + 2) (manyM b) hs (by omega) (by omega) m0.1 m0.2 k (by omega), Option.bind_some, impl_RuneBytes_ok, Option.bind_some]
        show (if manyM b = 0 then _ else _) = some (escTail s q (manyM b))
        unfold escTail
        by_cases c3 : manyM b = 0
        · rw [if_pos c3, if_pos c3]
        · rw [if_neg c3, if_neg c3]
          cases hexN s (manyM b).toNat (q + 2) 0 with
          | none => rfl
          | some x =>
            show (if true = true then (if (runeM x).toList = [] then _ else some (runeM x, wrap64 (q + 2 + manyM b))) else _) = some (if (runeM x).size = 0 then _ else _)
            rw [if_pos rfl, w64 (n := q + 2 + manyM b) (by omega) (by omega)]
            by_cases c4 : (runeM x).size = 0
            · rw [if_pos (tl_nil.mpr c4), if_pos c4]
            · rw [if_neg (fun h => c4 (tl_nil.mp h)), if_neg c4]
  · rw [if_neg c2, jt, if_neg (fun h => c2 h.1)]

theorem FnExactEscapeAt : laws_FnExactEscapeAt.Pure := by
  intro s p hs hp
  by_cases h : (s.size : Int) > 1048576
  · exact ⟨0, by simp only [laws_FnExactEscapeAt.f, if_pos h]⟩
  · refine ⟨200, ?_⟩
    unfold laws_FnExactEscapeAt.f
    rw [if_neg h, spec_EscapeAt_ok s p (by omega) 200 (by omega), Option.bind_some, impl_EscapeAt_ok s p (by omega) 200 (by omega), Option.bind_some, if_pos rfl, if_pos rfl]

end Go.Proofs.Ytjbhflicehnocaa.Pure
