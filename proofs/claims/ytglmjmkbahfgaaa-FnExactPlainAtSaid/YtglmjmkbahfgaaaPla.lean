/- Plain lemmas on the first byte of a plain scalar: no program in sight. -/
import Derived.Test.YtglmjmkbahfgaaaLst
import Derived.Test.YtglmjmkbahfgaaaIx
namespace Go.Proofs.Ytglmjmkbahfgaaa.Mine
open Go.RowKit Go.Proofs.YtglmjmkbahfgaaaW.PrintWords Go.Proofs.YtglmjmkbahfgaaaW.PrintLast Go.Proofs.YtglmjmkbahfgaaaW.PrintMore

def badL : List Int := [44, 91, 93, 123, 125, 35, 38, 42, 33, 124, 62, 39, 34, 37, 64, 96]
def badB (b : Int) : Bool := badL.any (fun x => decide (b = x))
def leadB (b : Int) : Bool := decide (b = 45 ∨ b = 63 ∨ b = 58)
theorem leadB_iff {b : Int} : leadB b = true ↔ (b = 45 ∨ b = 63 ∨ b = 58) := by simp [leadB]
theorem leadB_not {b : Int} : leadB b = false ↔ ¬ (b = 45 ∨ b = 63 ∨ b = 58) := by simp [leadB]
def plainFirstM (s : ByteArray) (p : Int) (flow : Bool) : Bool :=
  !gapB (byteM s (spotM s p)) && !badB (byteM s (spotM s p)) && (!leadB (byteM s (spotM s p)) || (!gapB (byteM s (spotM s p + 1)) && !(flow && flB (byteM s (spotM s p + 1)))))
set_option maxRecDepth 100000 in
theorem badB_all : ∀ n : Fin 256, badB ((n.val : Nat) : Int) = (decide (((n.val : Nat) : Int) = 64) || decide (((n.val : Nat) : Int) = 96) || decide (Lib.indexByte (⟨#[44, 91, 93, 123, 125, 35, 38, 42, 33, 124, 62, 39, 34, 37]⟩ : ByteArray).data.toList ((((n.val : Nat) : Int) % 256).toNat.toUInt8) ≥ 0)) := by decide +kernel
theorem badB_ix {b : Int} (h0 : 0 ≤ b) (h1 : b ≤ 255) : badB b = (decide (b = 64) || decide (b = 96) || decide (Lib.indexByte (⟨#[44, 91, 93, 123, 125, 35, 38, 42, 33, 124, 62, 39, 34, 37]⟩ : ByteArray).data.toList ((b % 256).toNat.toUInt8) ≥ 0)) := by
  have := badB_all ⟨b.toNat, by omega⟩
  rw [show (((⟨b.toNat, by omega⟩ : Fin 256).val : Nat) : Int) = b by show ((b.toNat : Nat) : Int) = b; omega] at this
  exact this
theorem gap_pos {s : ByteArray} {q : Int} (h0 : 0 ≤ q) (hg : gapB (byteM s q) = false) : q < (s.size : Int) := by
  by_cases c : q < (s.size : Int)
  · exact c
  · rw [byteM_end (by omega)] at hg; exact absurd hg (by decide)

/-! ### plain scalars over lines -/
theorem markM_lo (s : ByteArray) (p : Int) : 0 ≤ markM s p := by
  unfold markM
  split
  · split
    · omega
    · split <;> omega
  · omega
def stopB (s : ByteArray) (n : Int) (flow : Bool) (q : Int) : Bool := decide (markM s q > 0) || (!flow && decide (indentM s q ≤ n))
/-- From the line's beginning q on: where the next piece begins, and how many empty lines are before it. -/
def nxN (s : ByteArray) (n : Int) (flow : Bool) : Nat → Int → Nat → Option (Int × Nat)
  | 0, _, _ => none
  | d + 1, q, e => if loneM s q = true then (if endM s q = (s.size : Int) then none else nxN s n flow d (endM s q + 1) (e + 1))
    else if stopB s n flow q = true then none
    else if byteM s (whiteM s q) = 35 then none
    else if plainEndM s (whiteM s q) flow = whiteM s q then none
    else some (whiteM s q, e)
def nextM (s : ByteArray) (n : Int) (flow : Bool) (en : Int) : Option (Int × Nat) :=
  if byteM s (whiteM s en) = 10 then nxN s n flow (s.size + 1) (whiteM s en + 1) 0 else none
theorem pe_pos {s : ByteArray} {w : Int} {flow : Bool} (h0 : 0 ≤ w) (h1 : w ≤ s.size) (h : ¬ plainEndM s w flow = w) : w < plainEndM s w flow ∧ plainEndM s w flow ≤ s.size := by
  have a := plainEndM_ge s w flow
  have b := plainEndM_le s w flow
  rw [spotM_in h0 h1] at a
  omega
theorem nxN_some {s : ByteArray} {n : Int} {flow : Bool} {w : Int} {e' : Nat} (d : Nat) : ∀ (q : Int) (e : Nat), 0 ≤ q → q ≤ s.size → nxN s n flow d q e = some (w, e') → e ≤ e' ∧ q + ((e' : Int) - e) ≤ w ∧ w < plainEndM s w flow ∧ plainEndM s w flow ≤ s.size := by
  induction d with
  | zero => intro q e _ _ h; cases h
  | succ d ih =>
    intro q e h0 h1 h
    unfold nxN at h
    by_cases c : loneM s q = true
    · rw [if_pos c] at h
      by_cases c2 : endM s q = (s.size : Int)
      · rw [if_pos c2] at h; cases h
      · rw [if_neg c2] at h
        have a := endM_ge s q
        have b := endM_le s q
        rw [spotM_in h0 h1] at a
        have := ih (endM s q + 1) (e + 1) (by omega) (by omega) h
        omega
    · rw [if_neg c] at h
      by_cases c2 : stopB s n flow q = true
      · rw [if_pos c2] at h; cases h
      · rw [if_neg c2] at h
        by_cases c3 : byteM s (whiteM s q) = 35
        · rw [if_pos c3] at h; cases h
        · rw [if_neg c3] at h
          by_cases c4 : plainEndM s (whiteM s q) flow = whiteM s q
          · rw [if_pos c4] at h; cases h
          · rw [if_neg c4] at h
            injection h with h; injection h with h2 h3
            subst h2; subst h3
            have a := whiteM_ge s q
            have b := whiteM_le s q
            rw [spotM_in h0 h1] at a
            have := pe_pos (flow := flow) (by omega) b c4
            omega
theorem nextM_some {s : ByteArray} {n : Int} {flow : Bool} {en w : Int} {e : Nat} (h0 : 0 ≤ en) (h1 : en ≤ s.size) (h : nextM s n flow en = some (w, e)) : en + 1 + e ≤ w ∧ w < plainEndM s w flow ∧ plainEndM s w flow ≤ s.size := by
  unfold nextM at h
  by_cases c : byteM s (whiteM s en) = 10
  · rw [if_pos c] at h
    have a := whiteM_ge s en
    have b := whiteM_le s en
    rw [spotM_in h0 h1] at a
    have hlt : whiteM s en < s.size := by
      by_cases d : whiteM s en < s.size
      · exact d
      · rw [byteM_end (by omega)] at c; omega
    have := nxN_some (s.size + 1) (whiteM s en + 1) 0 (by omega) (by omega) h
    omega
  · rw [if_neg c] at h; cases h
theorem line_start {s : ByteArray} {q : Int} (h0 : 0 < q) (h1 : q ≤ s.size) (hb : bt s (q - 1) = 10) : lineM s q = q := by
  unfold lineM
  rw [spotM_in (by omega) h1, lastM_hit h0 hb]
theorem lone_end {s : ByteArray} {q : Int} (h0 : 0 ≤ q) (h1 : q ≤ s.size) (hl : lineM s q = q) (h : loneM s q = true) (he : endM s q = (s.size : Int)) : whiteM s q = (s.size : Int) := by
  have a := whiteM_ge s q
  have b := whiteM_le s q
  rw [spotM_in h0 h1] at a
  by_cases c : whiteM s q < s.size
  · unfold loneM at h
    rw [hl, byteM_in (by omega) c] at h
    have hb := brB_iff.mp h
    have := bt_lo s (whiteM s q)
    unfold endM at he
    rw [spotM_in h0 h1] at he
    have hn := upto_before (P := isLf) (s := s) (p := q) (i := whiteM s q) a (by omega)
    rw [isLf_not] at hn
    omega
  · omega
theorem lone_no {s : ByteArray} {q : Int} (h0 : 0 ≤ q) (h1 : q ≤ s.size) (hl : lineM s q = q) (h : ¬ loneM s q = true) : whiteM s q < s.size ∧ ¬ bt s (whiteM s q) = 10 := by
  have a := whiteM_ge s q
  have b := whiteM_le s q
  rw [spotM_in h0 h1] at a
  have hf : loneM s q = false := by simpa using h
  unfold loneM at hf
  rw [hl] at hf
  by_cases c : whiteM s q < s.size
  · rw [byteM_in (by omega) c, brB_not] at hf
    exact ⟨c, fun h => hf (.inl h)⟩
  · rw [byteM_end (by omega)] at hf; exact absurd hf (by decide)
theorem end_next {s : ByteArray} {q : Int} (h0 : 0 ≤ q) (h1 : q ≤ s.size) (he : endM s q < s.size) : bt s (endM s q) = 10 := by
  unfold endM at he ⊢
  exact isLf_iff.mp (upto_hits he)
theorem lone_last {s : ByteArray} {q : Int} (h1 : q = s.size) (hl : lineM s q = q) : loneM s q = true ∧ endM s q = (s.size : Int) := by
  have a := whiteM_ge s q
  have e1 := endM_ge s q
  have e2 := endM_le s q
  have b := whiteM_le s q
  rw [spotM_in (by omega) (by omega)] at a e1
  constructor
  · unfold loneM
    rw [hl, byteM_end (by omega)]; rfl
  · omega
theorem totP_app (a b : List (ByteArray × Bool)) : totP (a ++ b) = totP a + totP b := by
  induction a with
  | nil => simp [totP]
  | cons x r ih => rw [List.cons_append]; simp only [totP]; rw [ih]; omega
end Go.Proofs.Ytglmjmkbahfgaaa.Mine
