/- Plain lemmas on the first byte of a plain scalar: no program in sight. -/
import Derived.Test.YtnkbmfbmcpdcpaaLst
import Derived.Test.YtnkbmfbmcpdcpaaIx
namespace Go.Proofs.Ytnkbmfbmcpdcpaa.Mine
open Go.RowKit Go.Proofs.YtnkbmfbmcpdcpaaW.PrintWords Go.Proofs.YtnkbmfbmcpdcpaaW.PrintLast Go.Proofs.YtnkbmfbmcpdcpaaW.PrintMore

def badL : List Int := [44, 91, 93, 123, 125, 35, 38, 42, 33, 124, 62, 39, 34, 37, 64, 96]
def badB (b : Int) : Bool := badL.any (fun x => decide (b = x))
def leadB (b : Int) : Bool := decide (b = 45 ∨ b = 63 ∨ b = 58)
theorem leadB_iff {b : Int} : leadB b = true ↔ (b = 45 ∨ b = 63 ∨ b = 58) := by simp [leadB]
theorem leadB_not {b : Int} : leadB b = false ↔ ¬ (b = 45 ∨ b = 63 ∨ b = 58) := by simp [leadB]
def plainFirstM (s : ByteArray) (p : Int) (flow : Bool) : Bool :=
  !gapB (byteM s (spotM s p)) && !badB (byteM s (spotM s p)) && (!leadB (byteM s (spotM s p)) || (!gapB (byteM s (spotM s p + 1)) && !(flow && flB (byteM s (spotM s p + 1)))))
set_option maxRecDepth 100000 in
theorem badB_all : ∀ n : Fin 256, badB ((n.val : Nat) : Int) = (decide (((n.val : Nat) : Int) = 64) || decide (((n.val : Nat) : Int) = 96) || decide (Lib.indexByte (⟨#[44, 91, 93, 123, 125, 35, 38, 42, 33, 124, 62, 39, 34, 37]⟩ : ByteArray).data.toList ((((n.val : Nat) : Int) % 256).toNat.toUInt8) ≥ 0)) := by decide +kernel
theorem badB_ix {b : Int} (h0 : 0 ≤ b) (h1 : b ≤ 255) : badB b = (decide (b = 64) || decide (b = 96) || decide (Lib.indexByte (⟨#[44, 91, 93, 123, 125, 35, 38, 42, 33, 124, 62, 39, 34, 37]⟩ : ByteArray).data.toList ((b % 256).toNat.toUInt8) ≥ 0)) := by
  have := badB_all ⟨b.toNat, by omega⟩
  rw [show (((⟨b.toNat, by omega⟩ : Fin 256).val : Nat) : Int) = b by show ((b.toNat : Nat) : Int) = b; omega] at this
  exact this
theorem gap_pos {s : ByteArray} {q : Int} (h0 : 0 ≤ q) (hg : gapB (byteM s q) = false) : q < (s.size : Int) := by
  by_cases c : q < (s.size : Int)
  · exact c
  · rw [byteM_end (by omega)] at hg; exact absurd hg (by decide)
end Go.Proofs.Ytnkbmfbmcpdcpaa.Mine
