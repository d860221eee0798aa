/- Plain lemmas on the text of a block scalar: no program in sight. -/
import Derived.Test.YtglmjmkbahfgaaaLst
import Derived.Lib.Join
namespace Go.Proofs.Ytglmjmkbahfgaaa.Mine
open Go.RowKit Go.Proofs.YtglmjmkbahfgaaaW.PrintWords Go.Proofs.YtglmjmkbahfgaaaW.PrintLast Go.Proofs.YtglmjmkbahfgaaaW.PrintMore

def trimN (l : List ByteArray) : Nat → Nat
  | 0 => 0
  | n + 1 => if (l.getD n ByteArray.empty).size = 0 then trimN l n else n + 1
theorem trimN_succ (l : List ByteArray) (n : Nat) : trimN l (n + 1) = if (l.getD n ByteArray.empty).size = 0 then trimN l n else n + 1 := rfl
theorem trimN_le (l : List ByteArray) (n : Nat) : trimN l n ≤ n := by
  induction n with
  | zero => exact Nat.le_refl _
  | succ n ih => unfold trimN; split <;> omega
def keepTail : List ByteArray → ByteArray
  | [] => ⟨#[]⟩
  | x :: r => nl 1 ++ (x ++ keepTail r)
def keepM : List ByteArray → ByteArray
  | [] => ⟨#[]⟩
  | x :: r => x ++ keepTail r
theorem keepTail_data (r : List ByteArray) : (keepTail r).data.toList = Lib.joinTail [10] (r.map (·.data.toList)) := by
  induction r with
  | nil => rfl
  | cons x r ih => rw [keepTail, app_data, app_data, ih]; simp [Lib.joinTail, nl_data]
theorem join_keep (l : List ByteArray) : (⟨(Lib.join (l.map (·.data.toList)) [10]).toArray⟩ : ByteArray) = keepM l := by
  refine bext ?_
  cases l with
  | nil => rfl
  | cons x r =>
    show Lib.join ((x :: r).map (·.data.toList)) [10] = _
    rw [List.map_cons, Lib.join_cons, keepM, app_data, keepTail_data]
theorem keepTail_size (r : List ByteArray) : (keepTail r).size = totS r + r.length := by
  induction r with
  | nil => rfl
  | cons x r ih => rw [keepTail, size_app, size_app, ih, nl_size, totS, List.length_cons]; omega
theorem keepM_size (l : List ByteArray) : (keepM l).size ≤ totS l + l.length := by
  cases l with
  | nil => exact Nat.zero_le _
  | cons x r => rw [keepM, size_app, keepTail_size, totS, List.length_cons]; omega
theorem totS_take (l : List ByteArray) : ∀ n : Nat, totS (l.take n) ≤ totS l := by
  induction l with
  | nil => intro n; rw [List.take_nil]; exact Nat.le_refl _
  | cons x r ih =>
    intro n
    cases n with
    | zero => exact Nat.zero_le _
    | succ n => rw [List.take_succ_cons, totS, totS]; have := ih n; omega
theorem totS_ge (l : List ByteArray) : ∀ (i : Nat), (l.getD i ByteArray.empty).size ≤ totS l := by
  induction l with
  | nil => intro i; exact Nat.le_refl _
  | cons x r ih =>
    intro i
    cases i with
    | zero => rw [totS]; show x.size ≤ _; omega
    | succ i => rw [totS, List.getD_cons_succ]; have := ih i; omega
theorem foldBlockM_size (l : List ByteArray) : (foldBlockM l).size ≤ totS l + 2 * l.length := by
  have := fbN_size l ⟨#[]⟩ ⟨#[]⟩ 0
  rw [size_none] at this
  unfold foldBlockM
  omega
/-- The text of a block's lines: what is empty at the end is taken off first. -/
def blockM (l : List ByteArray) (folded : Bool) (chomp : Int) : ByteArray :=
  if trimN l l.length = 0 then (if chomp = 2 then nl l.length else ⟨#[]⟩)
  else if chomp = 1 then (if folded = true then foldBlockM (l.take (trimN l l.length)) else keepM (l.take (trimN l l.length)))
  else if chomp = 2 then (if folded = true then foldBlockM (l.take (trimN l l.length)) else keepM (l.take (trimN l l.length))) ++ nl (1 + l.length - trimN l l.length)
  else (if folded = true then foldBlockM (l.take (trimN l l.length)) else keepM (l.take (trimN l l.length))) ++ nl 1
end Go.Proofs.Ytglmjmkbahfgaaa.Mine
