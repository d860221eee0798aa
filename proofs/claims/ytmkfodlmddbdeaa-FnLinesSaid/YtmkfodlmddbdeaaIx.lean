/- Plain lemmas on the first place of a byte in a text: no program in sight. -/
import Derived.Test.YtmkfodlmddbdeaaTxt
import Derived.Lib.Bytealg
namespace Go.Proofs.Ytmkfodlmddbdeaa.Mine
open Go.RowKit Go.Proofs.YtmkfodlmddbdeaaW.PrintWords Go.Proofs.YtmkfodlmddbdeaaW.PrintLast Go.Proofs.YtmkfodlmddbdeaaW.PrintMore

theorem bt_dl {s : ByteArray} {i : Int} (h0 : 0 ≤ i) (h1 : i.toNat < s.data.toList.length) : bt s i = ((s.data.toList[i.toNat]'h1).toNat : Int) := by
  unfold bt
  rw [dif_pos (by rw [size_dl] at h1; exact h1)]
  rfl
theorem ix_spec (l : List UInt8) (c : UInt8) : (Lib.indexByte l c = -1 ∧ ∀ (i : Nat) (h : i < l.length), l[i] ≠ c) ∨
    ∃ n : Nat, Lib.indexByte l c = (n : Int) ∧ ∃ h : n < l.length, l[n] = c ∧ ∀ (i : Nat) (hi : i < n), l[i] ≠ c := by
  induction l with
  | nil => exact .inl ⟨rfl, fun i h => absurd h (by simp)⟩
  | cons b l ih =>
    unfold Lib.indexByte
    by_cases hb : b = c
    · subst hb
      exact .inr ⟨0, by simp, by simp, rfl, fun i hi => by omega⟩
    · rw [if_neg (by simpa using hb)]
      rcases ih with ⟨h1, h2⟩ | ⟨n, h1, h2, h3, h4⟩
      · refine .inl ⟨by rw [h1]; rfl, fun i h => ?_⟩
        cases i with
        | zero => exact hb
        | succ i => simpa using h2 i (by simpa using h)
      · refine .inr ⟨n + 1, ?_, by simpa using h2, by simpa using h3, fun i hi => ?_⟩
        · rw [h1, if_neg (by simp <;> omega)]; simp
        · cases i with
          | zero => exact hb
          | succ i => simpa using h4 i (by omega)
theorem ix_ext {s : ByteArray} {p : Int} (h0 : 0 ≤ p) (h1 : p ≤ (s.size : Int)) {r : Int} (hr : Lib.indexByte (s.extract p.toNat s.size).data.toList (10 : Int).toNat.toUInt8 = r) :
    -1 ≤ r ∧ r ≤ (s.size : Int) ∧ (if r < 0 then (s.size : Int) else p + r) = upto isLf s p := by
  have hz : (s.extract p.toNat s.size).size = s.size - p.toNat := size_ext _ _ _ (Nat.le_refl _)
  have hb : ∀ (j : Nat) (h : j < (s.extract p.toNat s.size).data.toList.length), bt s (p + j) = (((s.extract p.toNat s.size).data.toList[j]'h).toNat : Int) := by
    intro j h
    rw [size_dl, hz] at h
    have e := bt_dl (s := s.extract p.toNat s.size) (i := (j : Int)) (by omega) (by rw [size_dl, hz]; omega)
    rw [bt_ext (Nat.le_refl _) (by omega) (by omega)] at e
    rw [show (p.toNat : Int) + j = p + j by omega] at e
    rw [e]
    congr 2
  have hl : (s.extract p.toNat s.size).data.toList.length = s.size - p.toNat := by rw [size_dl, hz]
  rcases ix_spec (s.extract p.toNat s.size).data.toList (10 : Int).toNat.toUInt8 with ⟨e1, e2⟩ | ⟨n, e1, e2, e3, e4⟩
  · rw [e1] at hr
    subst hr
    refine ⟨by omega, by omega, ?_⟩
    rw [if_pos (by omega)]
    refine (upto_is h1 (Int.le_refl _) (fun h => absurd h (by omega)) fun i a b => ?_).symm
    refine isLf_not.mpr fun h10 => ?_
    have hj : (i - p).toNat < (s.extract p.toNat s.size).data.toList.length := by omega
    have := hb (i - p).toNat hj
    rw [show p + ((i - p).toNat : Int) = i by omega, h10] at this
    exact e2 _ hj (UInt8.toNat_inj.mp (by rw [show (10 : Int).toNat.toUInt8.toNat = 10 from rfl]; omega))
  · rw [e1] at hr
    subst hr
    rw [hl] at e2
    refine ⟨by omega, by omega, ?_⟩
    rw [if_neg (by omega)]
    refine (upto_is (by omega) (by omega) (fun _ => ?_) fun i a b => ?_).symm
    · refine isLf_iff.mpr ?_
      rw [hb n (by omega), e3]
      rfl
    · refine isLf_not.mpr fun h10 => ?_
      have hj : (i - p).toNat < (s.extract p.toNat s.size).data.toList.length := by omega
      have := hb (i - p).toNat hj
      rw [show p + ((i - p).toNat : Int) = i by omega, h10] at this
      exact e4 (i - p).toNat (by omega) (UInt8.toNat_inj.mp (by rw [show (10 : Int).toNat.toUInt8.toNat = 10 from rfl]; omega))

end Go.Proofs.Ytmkfodlmddbdeaa.Mine
