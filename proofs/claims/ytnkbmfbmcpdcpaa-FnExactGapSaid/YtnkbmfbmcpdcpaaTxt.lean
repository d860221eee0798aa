/- Plain lemmas on texts: equality, joining, digits: no program in sight. -/
import Derived.Test.YtnkbmfbmcpdcpaaMine
namespace Go.Proofs.Ytnkbmfbmcpdcpaa.Mine
open Go.RowKit Go.Proofs.YtnkbmfbmcpdcpaaW.PrintWords Go.Proofs.YtnkbmfbmcpdcpaaW.PrintLast Go.Proofs.YtnkbmfbmcpdcpaaW.PrintMore

theorem bext {a b : ByteArray} (h : a.data.toList = b.data.toList) : a = b := by
  cases a; cases b; simp only [ByteArray.mk.injEq]; exact Array.toList_inj.mp h
theorem tl_inj {a b : ByteArray} : a.toList = b.toList ↔ a = b := by
  rw [ByteArray.toList_eq, ByteArray.toList_eq]
  exact ⟨bext, fun h => by rw [h]⟩
theorem app_data (a b : ByteArray) : (a ++ b).data.toList = a.data.toList ++ b.data.toList := by
  rw [ByteArray.data_append, Array.toList_append]
theorem app_assoc (a b c : ByteArray) : a ++ b ++ c = a ++ (b ++ c) := bext (by simp only [app_data, List.append_assoc])
theorem app_nil (a : ByteArray) : a ++ (⟨#[]⟩ : ByteArray) = a := bext (by simp [app_data])
theorem nil_app (a : ByteArray) : (⟨#[]⟩ : ByteArray) ++ a = a := bext (by simp [app_data])
theorem size_app (a b : ByteArray) : (a ++ b).size = a.size + b.size := ByteArray.size_append
theorem size_dl (a : ByteArray) : a.data.toList.length = a.size := by rw [Array.length_toList]; rfl
theorem size_none : (⟨#[]⟩ : ByteArray).size = 0 := rfl
theorem tl_nil {a : ByteArray} : a.toList = ([] : List UInt8) ↔ a.size = 0 := by
  rw [ByteArray.toList_eq, ← size_dl]; exact List.length_eq_zero_iff.symm
theorem son_size (l : List Int) : (strOfNums l).size = l.length := strOfNums_size l
theorem size_zero {a : ByteArray} (h : a.size = 0) : a = ⟨#[]⟩ := by
  refine bext ?_
  rw [← size_dl] at h
  rw [List.length_eq_zero_iff.mp h]

/-! ### digits -/
def digC (n : Int) : ByteArray := strOfNums [48 + n]
theorem digC_size (n : Int) : (digC n).size = 1 := by unfold digC; rw [son_size]; rfl
def decM (n : Nat) : ByteArray := if n < 10 then digC n else decM (n / 10) ++ digC ((n % 10 : Nat) : Int)
theorem decM_small {n : Nat} (h : n < 10) : decM n = digC n := by rw [decM, if_pos h]
theorem decM_big {n : Nat} (h : ¬ n < 10) : decM n = decM (n / 10) ++ digC ((n % 10 : Nat) : Int) := by rw [decM, if_neg h]
theorem decM_size (n : Nat) : 1 ≤ (decM n).size ∧ (decM n).size ≤ n + 1 := by
  induction n using Nat.strongRecOn with
  | _ n ih =>
    by_cases h : n < 10
    · rw [decM_small h, digC_size]; omega
    · rw [decM_big h, size_app, digC_size]
      have := ih (n / 10) (by omega)
      omega
def numM (n : Int) : ByteArray := if 0 ≤ n ∧ n ≤ 4294967295 then decM n.toNat else ⟨#[]⟩

/-! ### a number out of its digits -/
def tnN (s : ByteArray) : Nat → Int → Int → Option Int
  | 0, n, _ => some n
  | d + 1, n, i => if bt s i < 48 ∨ bt s i > 57 then none else tnN s d (wrap64 ((wrap64 (10 * n)) + (((bt s i) - 48) % 256))) (i + 1)
def tnEnd (s : ByteArray) : Option Int → Int × Bool
  | none => (0, false)
  | some n => if numM n = s then (n, true) else (0, false)
def textNumM (s : ByteArray) : Int × Bool := if 1 ≤ s.size ∧ s.size ≤ 10 then tnEnd s (tnN s s.size 0 0) else (0, false)

end Go.Proofs.Ytnkbmfbmcpdcpaa.Mine
