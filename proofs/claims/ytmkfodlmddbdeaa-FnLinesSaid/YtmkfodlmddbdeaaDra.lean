/- Plain lemmas on generators of texts that end and whose texts are short. No program in sight. -/
import Derived.Test.YtmkfodlmddbdeaaGen
import Derived.Test.YtmkfodlmddbdeaaTxt
namespace Go.Proofs.Ytmkfodlmddbdeaa.Mine
open Go.RowKit Go.Proofs.YtmkfodlmddbdeaaW.PrintWords Go.Proofs.YtmkfodlmddbdeaaW.PrintLast Go.Proofs.YtmkfodlmddbdeaaW.PrintMore

/-- A generator's answer: a text of at most B bytes, and a place in the code. -/
def Ok (b : List Int) (B : Nat) (o : Option (ByteArray × Int × Int)) : Prop := ∃ w i h, o = some (w, i, h) ∧ w.size ≤ B ∧ 0 ≤ i ∧ i ≤ (b.length : Int)
section
variable {b : List Int} {B B' : Nat}
theorem Ok.some {w : ByteArray} {i h : Int} (hs : w.size ≤ B) (h0 : 0 ≤ i) (h1 : i ≤ (b.length : Int)) : Ok b B (some (w, i, h)) := ⟨w, i, h, rfl, hs, h0, h1⟩
theorem Ok.bind {o : Option (ByteArray × Int × Int)} {f : ByteArray × Int × Int → Option (ByteArray × Int × Int)} (ho : Ok b B o) (hf : ∀ w i h, w.size ≤ B → 0 ≤ i → i ≤ (b.length : Int) → Ok b B' (f (w, i, h))) : Ok b B' (o.bind f) := by
  obtain ⟨w, i, h, e, h0, h1, h2⟩ := ho
  rw [e, Option.bind_some]
  exact hf w i h h0 h1 h2
theorem Ok.cond {c : Prop} [Decidable c] {x y : Option (ByteArray × Int × Int)} (hc : c) (h : Ok b B x) : Ok b B (if c then x else y) := by rw [if_pos hc]; exact h
theorem Ok.ite {c : Prop} [Decidable c] {x y : Option (ByteArray × Int × Int)} (h : c → Ok b B x) (h' : ¬ c → Ok b B y) : Ok b B (if c then x else y) := by
  by_cases hc : c
  · rw [if_pos hc]; exact h hc
  · rw [if_neg hc]; exact h' hc
theorem Ok.mono {o : Option (ByteArray × Int × Int)} (h : Ok b B o) (hB : B ≤ B') : Ok b B' o := by
  obtain ⟨w, i, h, e, h0, h1, h2⟩ := h
  exact ⟨w, i, h, e, Nat.le_trans h0 hB, h1, h2⟩
end
end Go.Proofs.Ytmkfodlmddbdeaa.Mine
