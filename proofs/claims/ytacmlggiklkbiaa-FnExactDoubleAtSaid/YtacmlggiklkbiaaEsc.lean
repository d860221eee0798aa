/- Plain lemmas on an escape in a scalar in quotes: no program in sight. -/
import Derived.Test.YtacmlggiklkbiaaLst
import Derived.Test.YtacmlggiklkbiaaRune
import Derived.Test.YtacmlggiklkbiaaMap
namespace Go.Proofs.Ytacmlggiklkbiaa.Mine
open Go.RowKit Go.Proofs.YtacmlggiklkbiaaW.PrintWords Go.Proofs.YtacmlggiklkbiaaW.PrintLast Go.Proofs.YtacmlggiklkbiaaW.PrintMore

def hexD (b : Int) : Option Int := if 48 ≤ b ∧ b ≤ 57 then some (b - 48) else if 97 ≤ b ∧ b ≤ 102 then some (b - 87) else if 65 ≤ b ∧ b ≤ 70 then some (b - 55) else none
def hexN (s : ByteArray) : Nat → Int → Int → Option Int
  | 0, _, x => some x
  | d + 1, i, x => match hexD (byteM s i) with
    | none => none
    | some v => hexN s d (i + 1) (16 * x + v)
def pickN : List Int → List Int → Int → Option Int
  | x :: xs, y :: ys, b => if b = x then some y else pickN xs ys b
  | _, _, _ => none
def shortA : List Int := [48, 97, 98, 116, 9, 110, 118, 102, 114, 101, 32, 34, 47, 92, 78, 95, 76, 80]
def shortB : List Int := [0, 7, 8, 9, 9, 10, 11, 12, 13, 27, 32, 34, 47, 92, 133, 160, 8232, 8233]
def manyM (b : Int) : Int := mapGet [(120, 2), (117, 4), (85, 8)] b
theorem manyM_eq (b : Int) : manyM b = if b = 120 then 2 else if b = 117 then 4 else if b = 85 then 8 else 0 := rfl
theorem manyM_lo (b : Int) : 0 ≤ manyM b ∧ manyM b ≤ 8 := by
  rw [manyM_eq]
  split
  · omega
  · split
    · omega
    · split <;> omega
def escTail (s : ByteArray) (q : Int) (m : Int) : ByteArray × Int := if m = 0 then ((⟨#[]⟩ : ByteArray), 0) else match hexN s m.toNat (q + 2) 0 with
  | none => ((⟨#[]⟩ : ByteArray), 0)
  | some x => if (runeM x).size = 0 then ((⟨#[]⟩ : ByteArray), 0) else (runeM x, q + 2 + m)
def escBody (s : ByteArray) (q b : Int) : ByteArray × Int := match pickN shortA shortB b with
  | some r => (runeM r, q + 2)
  | none => escTail s q (manyM b)
def escM (s : ByteArray) (p : Int) : ByteArray × Int := if byteM s (spotM s p) = 92 ∧ spotM s p + 1 < s.size then escBody s (spotM s p) (bt s (spotM s p + 1)) else ((⟨#[]⟩ : ByteArray), 0)
theorem hexD_range {b v : Int} (h : hexD b = some v) : 0 ≤ v ∧ v ≤ 15 := by
  unfold hexD at h
  split at h
  · injection h; omega
  · split at h
    · injection h; omega
    · split at h
      · injection h; omega
      · cases h
def cap : Nat → Int
  | 0 => 4294967296
  | d + 1 => cap d / 16
theorem cap_le (d : Nat) : 0 ≤ cap d ∧ cap d ≤ 4294967296 := by
  induction d with
  | zero => exact ⟨by decide, Int.le_refl _⟩
  | succ d ih => unfold cap; omega
end Go.Proofs.Ytacmlggiklkbiaa.Mine
