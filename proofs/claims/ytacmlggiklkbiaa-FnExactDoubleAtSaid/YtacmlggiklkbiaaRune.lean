/- Plain lemmas on the bytes of a rune: no program in sight. -/
import Derived.Test.YtacmlggiklkbiaaTxt
import GoSem.Core.Utf8
namespace Go.Proofs.Ytacmlggiklkbiaa.Mine
open Go.RowKit Go.Proofs.YtacmlggiklkbiaaW.PrintWords Go.Proofs.YtacmlggiklkbiaaW.PrintLast Go.Proofs.YtacmlggiklkbiaaW.PrintMore

def okRune (r : Int) : Prop := 0 ≤ r ∧ r ≤ 1114111 ∧ ¬ (55296 ≤ r ∧ r ≤ 57343)
instance (r : Int) : Decidable (okRune r) := by unfold okRune; infer_instance
def runeM (r : Int) : ByteArray := if okRune r then Utf8.encode r else ⟨#[]⟩
theorem valid_ok {r : Int} (h : okRune r) : Utf8.valid r = true := by
  obtain ⟨a, b, c⟩ := h
  unfold Utf8.valid
  simp only [Bool.or_eq_true, Bool.and_eq_true, decide_eq_true_eq]
  omega
theorem enc_eq {r : Int} (h : okRune r) : Utf8.encode r =
    if r.toNat < 0x80 then ⟨#[UInt8.ofNat r.toNat]⟩
    else if r.toNat < 0x800 then ⟨#[UInt8.ofNat (0xC0 + r.toNat / 64), UInt8.ofNat (0x80 + r.toNat % 64)]⟩
    else if r.toNat < 0x10000 then ⟨#[UInt8.ofNat (0xE0 + r.toNat / 4096), UInt8.ofNat (0x80 + r.toNat / 64 % 64), UInt8.ofNat (0x80 + r.toNat % 64)]⟩
    else ⟨#[UInt8.ofNat (0xF0 + r.toNat / 262144), UInt8.ofNat (0x80 + r.toNat / 4096 % 64), UInt8.ofNat (0x80 + r.toNat / 64 % 64), UInt8.ofNat (0x80 + r.toNat % 64)]⟩ := by
  unfold Utf8.encode
  simp only [valid_ok h, if_true]
theorem son1 {a : Int} : strOfNums [a] = ⟨#[UInt8.ofNat a.toNat]⟩ := rfl
theorem son2 {a b : Int} : strOfNums [a, b] = ⟨#[UInt8.ofNat a.toNat, UInt8.ofNat b.toNat]⟩ := rfl
theorem son3 {a b c : Int} : strOfNums [a, b, c] = ⟨#[UInt8.ofNat a.toNat, UInt8.ofNat b.toNat, UInt8.ofNat c.toNat]⟩ := rfl
theorem son4 {a b c d : Int} : strOfNums [a, b, c, d] = ⟨#[UInt8.ofNat a.toNat, UInt8.ofNat b.toNat, UInt8.ofNat c.toNat, UInt8.ofNat d.toNat]⟩ := rfl
theorem runeM_size (r : Int) : (runeM r).size ≤ 4 := by
  unfold runeM
  split
  · rename_i h
    rw [enc_eq h]
    split
    · show 1 ≤ 4; omega
    · split
      · show 2 ≤ 4; omega
      · split
        · show 3 ≤ 4; omega
        · show 4 ≤ 4; omega
  · show 0 ≤ 4; omega

end Go.Proofs.Ytacmlggiklkbiaa.Mine
