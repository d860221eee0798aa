/- Plain lemmas on events: no program in sight. -/
import Derived.Test.YtacmlggiklkbiaaLst
namespace Go.Proofs.Ytacmlggiklkbiaa.Mine
open Go.RowKit Go.Proofs.YtacmlggiklkbiaaW.PrintWords Go.Proofs.YtacmlggiklkbiaaW.PrintLast Go.Proofs.YtacmlggiklkbiaaW.PrintMore

def noSt (b : Int) : Bool := !stB b
def nameB (s : ByteArray) : Bool := decide (s.size ≤ 60) && allN noSt s s.size 0
theorem nameB_none {s : ByteArray} (h : s.size = 0) : nameB s = true := by unfold nameB; rw [h]; rfl
theorem eq_none (s : ByteArray) : (s.toList == (⟨#[]⟩ : ByteArray).toList) = decide (s.size = 0) := by
  rw [Bool.eq_iff_iff, beq_iff_eq, decide_eq_true_eq, tl_inj]
  exact ⟨fun h => by rw [h]; rfl, size_zero⟩
def EvP (kind style : Int) (flag : Bool) (text anchor tag : ByteArray) (at_ code : Int) : Prop :=
  ((kind = 1 ∨ kind = 7 ∨ kind = 9) ∧ style = 0 ∧ flag = false ∧ text.size = 0 ∧ anchor.size = 0 ∧ tag.size = 0 ∧ at_ = 0 ∧ code = 0)
  ∨ ((kind = 2 ∨ kind = 8) ∧ style = 0 ∧ text.size = 0 ∧ anchor.size = 0 ∧ tag.size = 0 ∧ at_ = 0 ∧ code = 0)
  ∨ ((kind = 3 ∨ kind = 4) ∧ 6 ≤ style ∧ style ≤ 7 ∧ flag = false ∧ text.size = 0 ∧ nameB anchor = true ∧ tag.size ≤ 120 ∧ at_ = 0 ∧ code = 0)
  ∨ (kind = 5 ∧ 1 ≤ style ∧ style ≤ 5 ∧ flag = false ∧ nameB anchor = true ∧ tag.size ≤ 120 ∧ at_ = 0 ∧ code = 0)
  ∨ (kind = 6 ∧ ¬ text.size = 0 ∧ nameB text = true ∧ style = 0 ∧ flag = false ∧ anchor.size = 0 ∧ tag.size = 0 ∧ at_ = 0 ∧ code = 0)
  ∨ (kind = 10 ∧ 1 ≤ code ∧ code ≤ 99 ∧ 0 ≤ at_ ∧ style = 0 ∧ flag = false ∧ text.size = 0 ∧ anchor.size = 0 ∧ tag.size = 0)
instance (kind style : Int) (flag : Bool) (text anchor tag : ByteArray) (at_ code : Int) : Decidable (EvP kind style flag text anchor tag at_ code) := by unfold EvP; infer_instance
def evM (kind style : Int) (flag : Bool) (text anchor tag : ByteArray) (at_ code : Int) : Bool := decide (EvP kind style flag text anchor tag at_ code)

end Go.Proofs.Ytacmlggiklkbiaa.Mine
