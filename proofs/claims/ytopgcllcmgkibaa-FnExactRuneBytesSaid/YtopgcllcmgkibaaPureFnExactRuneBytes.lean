/- For every number, the program's RuneBytes answers as the reference's does; no condition. -/
import Derived.Test.YtopgcllcmgkibaaPFnExactRuneBytesx0
import Derived.Test.YtopgcllcmgkibaaPFnExactRuneBytesx1
import Derived.Test.YtopgcllcmgkibaaMine
import Derived.Test.YtopgcllcmgkibaaRune
import Derived.Test.YtopgcllcmgkibaaTxt
namespace Go.Proofs.Ytopgcllcmgkibaa.Pure
open Go.RowKit Go.Proofs.Ytopgcllcmgkibaa.PFnExactRuneBytes Go.Proofs.YtopgcllcmgkibaaW.PrintWords Go.Proofs.YtopgcllcmgkibaaW.PrintLast Go.Proofs.YtopgcllcmgkibaaW.PrintMore Go.Proofs.Ytopgcllcmgkibaa.Mine

theorem spec_RuneBytes_ok (r : Int) (k : Nat) (hk : 1 ≤ k) : spec_RuneBytes.f k r = some (runeM r) := by
  obtain ⟨k, rfl⟩ : ∃ m, k = m + 1 := ⟨k - 1, by omega⟩
  unfold spec_RuneBytes.f runeM
  by_cases h : okRune r
  · rw [if_pos h]
    have h' := h
    obtain ⟨a, b, c⟩ := h'
    rw [if_neg (by omega), if_neg (by omega)]
    have e : (if r ≥ 55296 then spec_RuneBytes.j0 (k + 1) r (decide (r ≤ 57343)) else spec_RuneBytes.j0 (k + 1) r false) = spec_RuneBytes.j0 (k + 1) r false := by
      by_cases h5 : r ≥ 55296
      · rw [if_pos h5, show decide (r ≤ 57343) = false by simp; omega]
      · rw [if_neg h5]
    rw [e, enc_eq h]
    simp only [spec_RuneBytes.j0, Bool.false_eq_true, if_false]
    by_cases h1 : r < 128
    · rw [if_pos h1, if_pos (show r.toNat < 0x80 by omega), son1, show (r % 256).toNat = r.toNat by omega]
    · rw [if_neg h1, if_neg (show ¬ r.toNat < 0x80 by omega)]
      by_cases h2 : r < 2048
      · rw [if_pos h2, if_pos (show r.toNat < 0x800 by omega), son2, Int.tdiv_eq_ediv_of_nonneg a, Int.tmod_eq_emod_of_nonneg a, w64 (n := r / 64) (by omega) (by omega), w64 (by omega) (by omega), w64 (by omega) (by omega),
          show ((192 + r / 64) % 256).toNat = 0xC0 + r.toNat / 64 by omega, show ((128 + r % 64) % 256).toNat = 0x80 + r.toNat % 64 by omega]
      · rw [if_neg h2, if_neg (show ¬ r.toNat < 0x800 by omega)]
        by_cases h3 : r < 65536
        · rw [if_pos h3, if_pos (show r.toNat < 0x10000 by omega), son3, Int.tdiv_eq_ediv_of_nonneg a, Int.tdiv_eq_ediv_of_nonneg a, Int.tmod_eq_emod_of_nonneg a, w64 (n := r / 64) (by omega) (by omega), w64 (n := r / 4096) (by omega) (by omega),
            Int.tmod_eq_emod_of_nonneg (a := r / 64) (by omega), w64 (by omega) (by omega), w64 (by omega) (by omega), w64 (by omega) (by omega),
            show ((224 + r / 4096) % 256).toNat = 0xE0 + r.toNat / 4096 by omega, show ((128 + r / 64 % 64) % 256).toNat = 0x80 + r.toNat / 64 % 64 by omega, show ((128 + r % 64) % 256).toNat = 0x80 + r.toNat % 64 by omega]
        · rw [if_neg h3, if_neg (show ¬ r.toNat < 0x10000 by omega), son4, Int.tdiv_eq_ediv_of_nonneg a, Int.tdiv_eq_ediv_of_nonneg a, Int.tdiv_eq_ediv_of_nonneg a, Int.tmod_eq_emod_of_nonneg a, w64 (n := r / 64) (by omega) (by omega), w64 (n := r / 4096) (by omega) (by omega), w64 (n := r / 262144) (by omega) (by omega),
            Int.tmod_eq_emod_of_nonneg (a := r / 64) (by omega), Int.tmod_eq_emod_of_nonneg (a := r / 4096) (by omega), w64 (by omega) (by omega), w64 (by omega) (by omega), w64 (by omega) (by omega), w64 (by omega) (by omega),
            show ((240 + r / 262144) % 256).toNat = 0xF0 + r.toNat / 262144 by omega, show ((128 + r / 4096 % 64) % 256).toNat = 0x80 + r.toNat / 4096 % 64 by omega, show ((128 + r / 64 % 64) % 256).toNat = 0x80 + r.toNat / 64 % 64 by omega, show ((128 + r % 64) % 256).toNat = 0x80 + r.toNat % 64 by omega]
  · rw [if_neg h]
    have hc : r < 0 ∨ r > 1114111 ∨ (55296 ≤ r ∧ r ≤ 57343) := by unfold okRune at h; omega
    have hj : spec_RuneBytes.j0 (k + 1) r true = some (⟨#[]⟩ : ByteArray) := by simp only [spec_RuneBytes.j0, if_true]
    by_cases h1 : r < 0
    · rw [if_pos h1, hj]
    · rw [if_neg h1]
      by_cases h2 : r > 1114111
      · rw [if_pos h2, hj]
      · rw [if_neg h2, if_pos (by omega), show decide (r ≤ 57343) = true by simp; omega, hj]

theorem impl_within_ok (a b c : Int) : impl_within.f a b c = some (decide (b ≤ a ∧ a ≤ c)) := by
  unfold impl_within.f
  by_cases h : a ≥ b
  · rw [if_pos h]; simp only [Option.some.injEq, decide_eq_decide]; omega
  · rw [if_neg h]; simp only [Option.some.injEq]; symm; simp only [decide_eq_false_iff_not]; omega

theorem impl_RuneBytes_ok (r : Int) : impl_RuneBytes.f r = some (runeM r) := by
  simp only [impl_RuneBytes.f, impl_within_ok, Option.bind_some, decide_eq_true_eq]
  unfold runeM
  by_cases h : okRune r
  · have h' := h
    obtain ⟨a, b, c⟩ := h'
    have e : wrap32 r = r := by unfold wrap32; omega
    rw [if_pos h, if_pos ⟨a, b⟩, if_neg c, e]
  · rw [if_neg h]
    by_cases c : 0 ≤ r ∧ r ≤ 1114111
    · rw [if_pos c, if_pos (by unfold okRune at h; omega)]
    · rw [if_neg c]

theorem FnExactRuneBytes : laws_FnExactRuneBytes.Pure := by
  intro r hr
  refine ⟨1, ?_⟩
  simp only [laws_FnExactRuneBytes.f, spec_RuneBytes_ok r 1 (Nat.le_refl _), impl_RuneBytes_ok, Option.bind_some, if_true]

end Go.Proofs.Ytopgcllcmgkibaa.Pure
