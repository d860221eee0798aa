/- Plain lemmas on a stream made normal: no program in sight. -/
import Derived.Test.YtjbhflicehnocaaDoorUtf
import Derived.Test.YtjbhflicehnocaaDoorLst
namespace Go.Proofs.YtjbhflicehnocaaDoor.Mine
open Go.RowKit Go.Proofs.YtjbhflicehnocaaDoorW.PrintWords Go.Proofs.YtjbhflicehnocaaDoorW.PrintLast Go.Proofs.YtjbhflicehnocaaDoorW.PrintMore

def crN : List Int → List Int
  | [] => []
  | x :: r => if x = 13 then (if r.head? = some 10 then crN r else 10 :: crN r) else x :: crN r
theorem crN_len (l : List Int) : (crN l).length ≤ l.length := by
  induction l with
  | nil => exact Nat.le_refl _
  | cons x r ih =>
    rw [crN]
    split
    · split
      · rw [List.length_cons]; omega
      · rw [List.length_cons, List.length_cons]; omega
    · rw [List.length_cons, List.length_cons]; omega
def bomB (l : List Int) : Bool := decide (3 ≤ l.length ∧ rd l 0 = 239 ∧ rd l 1 = 187 ∧ rd l 2 = 191)
def normT (t : List Int) : ByteArray × Int := if cleanM (strOfNums (crN t)) = ((strOfNums (crN t)).size : Int) then (strOfNums (crN t), 0) else ((⟨#[]⟩ : ByteArray), 2)
def normM (l : List Int) : ByteArray × Int := if (l.length : Int) > 60000 then ((⟨#[]⟩ : ByteArray), 1) else normT (if bomB l = true then l.drop 3 else l)
theorem rd_drop (l : List Int) (n : Nat) (i : Int) (h0 : 0 ≤ i) : rd (l.drop n) i = rd l (i + n) := by
  unfold rd
  rw [List.getD_eq_getElem?_getD, List.getD_eq_getElem?_getD, List.getElem?_drop, show (i + n).toNat = n + i.toNat by omega]
theorem head_rd (l : List Int) (i : Int) (h0 : 0 ≤ i) : (l.drop i.toNat).head? = if i < (l.length : Int) then some (rd l i) else none := by
  rw [List.head?_drop]
  unfold rd
  split
  · rw [List.getD_eq_getElem?_getD, List.getElem?_eq_getElem (by omega)]; rfl
  · exact List.getElem?_eq_none (by omega)
theorem drop_rd (l : List Int) (i : Int) (h0 : 0 ≤ i) (h1 : i < (l.length : Int)) : l.drop i.toNat = rd l i :: l.drop (i + 1).toNat := drop_at 0 l i h0 h1
end Go.Proofs.YtjbhflicehnocaaDoor.Mine
