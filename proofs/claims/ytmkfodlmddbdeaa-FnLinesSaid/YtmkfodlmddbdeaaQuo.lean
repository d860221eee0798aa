/- Plain lemmas on lines of a scalar in quotes: white at an end that is cut off. No program in sight. -/
import Derived.Test.YtmkfodlmddbdeaaLst
import Derived.Lib.Strings
namespace Go.Proofs.Ytmkfodlmddbdeaa.Mine
open Go.RowKit Go.Proofs.YtmkfodlmddbdeaaW.PrintWords

/-- The length of what is left of the first n bytes when white is cut off their end, down to m. -/
def trimN (m : Nat) (l : List Int) : Nat → Nat
  | 0 => 0
  | n + 1 => if m < n + 1 ∧ whB (rd l n) = true then trimN m l n else n + 1
theorem trimN_le (m : Nat) (l : List Int) (n : Nat) : trimN m l n ≤ n := by
  induction n with
  | zero => simp [trimN]
  | succ n ih => rw [trimN]; split <;> omega
theorem trimN_app (m : Nat) (l t : List Int) (n : Nat) (hn : n ≤ l.length) : trimN m (l ++ t) n = trimN m l n := by
  induction n with
  | zero => rfl
  | succ n ih =>
    have e : rd (l ++ t) n = rd l n := by
      unfold rd
      rw [List.getD_eq_getElem?_getD, List.getD_eq_getElem?_getD, List.getElem?_append_left (by omega)]
    rw [trimN, trimN, e, ih (by omega)]
theorem trimN_push (m : Nat) (l : List Int) (b : Int) (hm : m ≤ l.length) : trimN m (l ++ [b]) (l ++ [b]).length = if whB b = true then trimN m l l.length else l.length + 1 := by
  have e : rd (l ++ [b]) (l.length : Nat) = b := by
    unfold rd
    rw [List.getD_eq_getElem?_getD, show ((l.length : Nat) : Int).toNat = l.length by omega, List.getElem?_append_right (by omega)]
    simp
  rw [List.length_append, List.length_singleton, trimN, e, trimN_app m l [b] l.length (by omega)]
  by_cases h : whB b = true
  · rw [if_pos ⟨by omega, h⟩, if_pos h]
  · rw [if_neg (fun q => h q.2), if_neg h]
theorem trimN_all (l : List Int) (n : Nat) : trimN n l n = n := by
  cases n with
  | zero => rfl
  | succ n => rw [trimN, if_neg (by omega)]
theorem son_app (a b : List Int) : strOfNums (a ++ b) = strOfNums a ++ strOfNums b := bext (by simp [strOfNums, app_data])
theorem son_nil : strOfNums [] = (⟨#[]⟩ : ByteArray) := rfl
theorem son_take (l : List Int) (n : Nat) (h : n ≤ l.length) : (strOfNums l).extract 0 n = strOfNums (l.take n) := by
  apply bext
  rw [Go.Lib.extract_data]
  simp [strOfNums, List.map_take]
theorem rd_take (l : List Int) (n : Nat) (_hn : n + 1 ≤ l.length) : rd (l.take (n + 1)) (n : Int) = rd l (n : Int) := by
  unfold rd
  rw [List.getD_eq_getElem?_getD, List.getD_eq_getElem?_getD, show ((n : Nat) : Int).toNat = n by omega, List.getElem?_take, if_pos (by omega)]
end Go.Proofs.Ytmkfodlmddbdeaa.Mine
